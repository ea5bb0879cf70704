/-
  What the functions of package leap, and those of its reference, tell of any table and day, in plain numbers.
-/
import Derived.Test.YtnlaiiophongmaaDoorK
import Derived.Test.YtnlaiiophongmaaDoorMath
import Derived.Test.YtnlaiiophongmaaDoorPLeapMomentsx
namespace Go.Proofs.YtnlaiiophongmaaDoor.PLeapMoments
open Go.RowKit Go.Proofs.YtnlaiiophongmaaDoorW.PrintWords Go.Proofs.YtnlaiiophongmaaDoorW.PrintMore
set_option linter.unusedVariables false
set_option linter.unusedSimpArgs false

/-- the printed error is the error as a value -/
theorem errW_errV (o : Option Int) : errW o = errV o := by cases o <;> rfl
theorem pDiv (a b : Int) (ha : R64 a) (hb : R64 b) (h : 1 ≤ b) : num_Div.f a b = some (a / b, a % b, none) := by
  unfold num_Div.f
  have hr0 := Int.emod_nonneg a (show b ≠ 0 by omega)
  have hr1 := Int.emod_lt_of_pos a (show 0 < b by omega)
  have hq := div_bounds ha h
  have ht := (tdiv_range ha h).wrap
  rw [if_neg (by omega), if_neg (by omega), ht]
  rcases Int.lt_or_le a 0 with h0 | h0
  · have e1 := tdiv_neg h0 h
    have e2 := tmod_neg h0 h
    by_cases hz : a % b = 0
    · rw [if_pos hz] at e1 e2
      rw [if_neg (by omega), e1, e2]; simp
    · rw [if_neg hz] at e1 e2
      rw [if_pos (by omega), e1, e2, R64.wrap (by simpa using hq.1), R64.wrap (by unfold R64 at *; omega)]; simp
  · rw [Int.tmod_eq_emod_of_nonneg h0, tdiv_of_nonneg h0, if_neg (by omega)]
theorem pDivBad (a b : Int) (h : b < 1) : num_Div.f a b = some (0, 0, some 1) := by unfold num_Div.f; rw [if_pos h]

/-- may element i be -/
def rowOk (l : Int) (L : List Int) (i : Nat) : Bool := decide (-50000 ≤ rd L i) && decide (rd L i < l) && (decide (i = 0) || decide (rd L ((i : Int) - 1) < rd L i))
/-- may the d elements from i on be -/
def rowsOk (l : Int) (L : List Int) : Nat → Nat → Bool
  | 0, _ => true
  | d + 1, i => rowOk l L i && rowsOk l L d (i + 1)
def headOk (b l : Int) (L : List Int) : Bool := decide (0 ≤ b) && decide (b ≤ 100) && decide (-50000 ≤ l) && decide (l ≤ 50000) && decide ((L.length : Int) ≤ 32)
def tabOk (b l : Int) (L : List Int) : Bool := headOk b l L && rowsOk l L L.length 0
theorem wrapS {i : Nat} (h : i < 1000) : wrap64 ((i : Int) + 1) = ((i + 1 : Nat) : Int) := by unfold wrap64; omega
theorem check_l0 (b l : Int) (L : List Int) (hL : L.length ≤ 60) : ∀ (d k i : Nat), i + d = L.length → d < k → leap_Check.l0 k L (L.length : Int) (i : Int) b l L = some (if rowsOk l L d i = true then none else some 1) := by
  intro d
  induction d with
  | zero =>
    intro k i hi hk
    obtain ⟨k, rfl⟩ : ∃ m, k = m + 1 := ⟨k - 1, by omega⟩
    simp only [leap_Check.l0]
    rw [if_neg (by omega)]; simp [rowsOk]
  | succ d ih =>
    intro k i hi hk
    obtain ⟨k, rfl⟩ : ∃ m, k = m + 1 := ⟨k - 1, by omega⟩
    have ih' := ih k (i + 1) (by omega) (by omega)
    simp only [leap_Check.l0]
    rw [if_pos (by omega), if_pos (by omega), if_pos (by omega), wrapS (by omega), ih']
    simp only [rowsOk, rowOk]
    by_cases h1 : rd L i < -50000
    · rw [if_pos h1]; simp [show ¬ (-50000 ≤ rd L i) by omega]
    · rw [if_neg h1]
      by_cases h2 : rd L i ≥ l
      · rw [if_pos h2]; simp [show ¬ (rd L i < l) by omega]
      · rw [if_neg h2]
        by_cases h3 : i = 0
        · rw [if_neg (by omega)]; subst h3; simp at h1 h2 ⊢; simp [h1, h2]
        · rw [if_pos (by omega), show wrap64 ((i : Int) - 1) = (i : Int) - 1 from R64.wrap (by unfold R64; omega), if_pos (by omega), if_pos (by omega)]
          by_cases h4 : rd L ((i : Int) - 1) ≥ rd L i
          · rw [if_pos h4]; simp [show ¬ (rd L ((i : Int) - 1) < rd L i) by omega, h3]
          · rw [if_neg h4]; simp [show rd L ((i : Int) - 1) < rd L i by omega, show -50000 ≤ rd L i by omega, show rd L i < l by omega]
theorem check_eq (k : Nat) (b l : Int) (L : List Int) (hL : L.length ≤ 60) (hk : 70 ≤ k) : leap_Check.f k b l L = some (if tabOk b l L = true then none else some 1) := by
  obtain ⟨k, rfl⟩ : ∃ m, k = m + 1 := ⟨k - 1, by omega⟩
  have h0 := check_l0 b l L hL L.length k 0 (by omega) (by omega)
  unfold leap_Check.f tabOk headOk
  by_cases h1 : b < 0
  · rw [if_pos h1]; simp [leap_Check.j0, show ¬ (0 ≤ b) by omega]
  rw [if_neg h1]
  by_cases h2 : b > 100
  · rw [if_pos h2]; simp [leap_Check.j0, show ¬ (b ≤ 100) by omega]
  rw [if_neg h2]
  by_cases h3 : l < -50000
  · rw [if_pos h3]; simp [leap_Check.j0, show ¬ (-50000 ≤ l) by omega]
  rw [if_neg h3]
  by_cases h4 : l > 50000
  · rw [if_pos h4]; simp [leap_Check.j0, show ¬ (l ≤ 50000) by omega]
  rw [if_neg h4]
  simp only [leap_Check.j0]
  by_cases h5 : (L.length : Int) > 32
  · rw [if_pos (by simpa using h5)]; simp [show ¬ ((L.length : Int) ≤ 32) by omega]
  · rw [if_neg (by simpa using h5)]
    refine h0.trans ?_
    simp [show 0 ≤ b by omega, show b ≤ 100 by omega, show -50000 ≤ l by omega, show l ≤ 50000 by omega, show (L.length : Int) ≤ 32 by omega]
theorem may_l0 (b l : Int) (L : List Int) (hL : L.length ≤ 60) : ∀ (d k i : Nat), i + d = L.length → d < k → fuseeref09_May.l0 k (i : Int) b l L = some (headOk b l L && rowsOk l L d i) := by
  intro d
  induction d with
  | zero =>
    intro k i hi hk
    obtain ⟨k, rfl⟩ : ∃ m, k = m + 1 := ⟨k - 1, by omega⟩
    simp only [fuseeref09_May.l0]
    rw [if_neg (by omega)]
    unfold headOk
    by_cases h1 : b ≥ 0 <;> by_cases h2 : b ≤ 100 <;> by_cases h3 : l ≥ -50000 <;> by_cases h4 : l ≤ 50000 <;> simp [rowsOk, h1, h2, h3, h4] <;> omega
  | succ d ih =>
    intro k i hi hk
    obtain ⟨k, rfl⟩ : ∃ m, k = m + 1 := ⟨k - 1, by omega⟩
    have ih' := ih k (i + 1) (by omega) (by omega)
    simp only [fuseeref09_May.l0]
    rw [if_pos (by omega), if_pos (by omega), wrapS (by omega), ih']
    simp only [rowsOk, rowOk]
    by_cases h1 : rd L i < -50000
    · rw [if_pos h1]; simp [show ¬ (-50000 ≤ rd L i) by omega]
    · rw [if_neg h1]
      by_cases h2 : rd L i ≥ l
      · rw [if_pos h2]; simp [show ¬ (rd L i < l) by omega]
      · rw [if_neg h2]
        by_cases h3 : i = 0
        · rw [if_neg (by omega)]; subst h3; simp at h1 h2 ⊢; simp [h1, h2]
        · rw [if_pos (by omega), show wrap64 ((i : Int) - 1) = (i : Int) - 1 from R64.wrap (by unfold R64; omega), if_pos (by omega), if_pos (by omega)]
          by_cases h4 : rd L i ≤ rd L ((i : Int) - 1)
          · rw [if_pos h4]; simp [show ¬ (rd L ((i : Int) - 1) < rd L i) by omega, h3]
          · rw [if_neg h4]; simp [show rd L ((i : Int) - 1) < rd L i by omega, show -50000 ≤ rd L i by omega, show rd L i < l by omega]
theorem may_eq (k : Nat) (b l : Int) (L : List Int) (hL : L.length ≤ 60) (hk : 70 ≤ k) : fuseeref09_May.f k b l L = some (tabOk b l L) := by
  unfold fuseeref09_May.f tabOk
  exact may_l0 b l L hL L.length k 0 (by omega) (by omega)
/-- the error of a day -/
def wr (b l : Int) (L : List Int) (day : Int) : Option Int := if tabOk b l L = true then (if day < -50000 then some 2 else if day ≥ l then some 10 else none) else some 1
theorem known_eq (k : Nat) (b l : Int) (L : List Int) (day : Int) (hL : L.length ≤ 60) (hk : 70 ≤ k) : leap_known.f k b l L day = some (wr b l L day) := by
  unfold leap_known.f wr
  rw [check_eq k b l L hL hk]
  cases tabOk b l L <;> simp
  split <;> (try split) <;> rfl
theorem wrong_eq (k : Nat) (b l : Int) (L : List Int) (day : Int) (hL : L.length ≤ 60) (hk : 70 ≤ k) : fuseeref09_Wrong.f k b l L day = some (numE (wr b l L day)) := by
  unfold fuseeref09_Wrong.f wr
  rw [may_eq k b l L hL hk]
  cases tabOk b l L
  · simp [numE]
  · by_cases h1 : day < -50000
    · simp [h1, numE]
    · by_cases h2 : day ≥ l <;> simp [h1, h2, numE]
/-- how many of the first i elements are below x -/
def cnt (L : List Int) (x : Int) : Nat → Nat
  | 0 => 0
  | i + 1 => cnt L x i + (if rd L i < x then 1 else 0)
theorem cnt_le (L : List Int) (x : Int) : ∀ i, cnt L x i ≤ i
  | 0 => Nat.le_refl _
  | i + 1 => by have := cnt_le L x i; unfold cnt; split <;> omega
theorem cnt_split (L : List Int) (x : Int) (p : Nat) (h1 : ∀ i, i < p → rd L (i : Nat) < x) : ∀ n, p ≤ n → (∀ i, p ≤ i → i < n → ¬ rd L (i : Nat) < x) → cnt L x n = p := by
  have base : ∀ m, m ≤ p → cnt L x m = m := by
    intro m
    induction m with
    | zero => intro _; rfl
    | succ m ih => intro hm; unfold cnt; rw [ih (by omega), if_pos (h1 m (by omega))]
  intro n
  induction n with
  | zero => intro hp _; have e : p = 0 := by omega
            rw [e]; rfl
  | succ n ih =>
    intro hp h2
    by_cases e : p = n + 1
    · rw [e] at base ⊢; exact base _ (Nat.le_refl _)
    · unfold cnt
      rw [ih (by omega) (fun i a c => h2 i a (by omega)), if_neg (h2 n (by omega) (by omega))]; rfl
theorem rows_at {l : Int} {L : List Int} : ∀ (d i : Nat), rowsOk l L d i = true → ∀ j, i ≤ j → j < i + d → rowOk l L j = true
  | 0, i, _, j, h1, h2 => by omega
  | d + 1, i, h, j, h1, h2 => by
    simp only [rowsOk, Bool.and_eq_true] at h
    by_cases e : j = i
    · rw [e]; exact h.1
    · exact rows_at d (i + 1) h.2 j (by omega) (by omega)
theorem sorted_of {l : Int} {L : List Int} (h : rowsOk l L L.length 0 = true) : ∀ j i : Nat, i < j → j < L.length → rd L (i : Nat) < rd L (j : Nat) := by
  intro j
  induction j with
  | zero => intro i hi; omega
  | succ j ih =>
    intro i hi hj
    have hr := rows_at L.length 0 h (j + 1) (by omega) (by omega)
    simp only [rowOk, Bool.and_eq_true, Bool.or_eq_true, decide_eq_true_eq] at hr
    have h3 : rd L (j : Nat) < rd L ((j + 1 : Nat) : Int) := by
      rcases hr.2 with e | e
      · omega
      · have e2 : ((j + 1 : Nat) : Int) - 1 = (j : Int) := by omega
        rw [e2] at e; exact e
    by_cases e : i = j
    · rw [e]; exact h3
    · have := ih i (by omega) (by omega); omega
theorem less_eq (a b : Int) : cmp_Less_int64.f a b = some (decide (a < b)) := by
  unfold cmp_Less_int64.f cmp_isNaN_int64.f; simp
theorem bs_l0 (L : List Int) (x : Int) (hL : L.length ≤ 60) (hs : ∀ j i : Nat, i < j → j < L.length → rd L (i : Nat) < rd L (j : Nat)) :
    ∀ (d k i j : Nat), i + d = j → j ≤ L.length → d < k → (∀ m : Nat, m < i → rd L (m : Nat) < x) → (∀ m : Nat, j ≤ m → m < L.length → ¬ rd L (m : Nat) < x) →
    ∃ f, slices_BinarySearch_int64_int64.l0 k L x (L.length : Int) (i : Int) (j : Int) = some ((cnt L x L.length : Int), f) := by
  intro d
  induction d using Nat.strongRecOn with
  | ind d ih =>
    intro k i j hij hj hk h1 h2
    obtain ⟨k, rfl⟩ : ∃ m, k = m + 1 := ⟨k - 1, by omega⟩
    simp only [slices_BinarySearch_int64_int64.l0]
    by_cases hlt : i < j
    · have hw : wrap64 ((IntKind.u64.wrap (wrap64 ((i : Int) + (j : Int)))) / 2) = (((i + j) / 2 : Nat) : Int) := by
        have e1 : wrap64 ((i : Int) + (j : Int)) = (i : Int) + (j : Int) := R64.wrap (by unfold R64; omega)
        have e2 : IntKind.u64.wrap ((i : Int) + (j : Int)) = (i : Int) + (j : Int) := by
          simp only [IntKind.wrap, IntKind.bits, IntKind.signed]
          simp; omega
        rw [e1, e2, R64.wrap (by unfold R64; omega)]; omega
      rw [if_pos (by omega), hw, if_pos (by omega), if_pos (by omega), less_eq]
      simp only [Option.bind_some]
      by_cases hx : rd L (((i + j) / 2 : Nat) : Int) < x
      · rw [if_pos (by simpa using hx), wrapS (by omega)]
        refine ih (j - ((i + j) / 2 + 1)) (by omega) k ((i + j) / 2 + 1) j (by omega) hj (by omega) ?_ h2
        intro m hm
        by_cases e : m = (i + j) / 2
        · rw [e]; exact hx
        · have := hs ((i + j) / 2) m (by omega) (by omega); omega
      · rw [if_neg (by simpa using hx)]
        refine ih ((i + j) / 2 - i) (by omega) k i ((i + j) / 2) (by omega) (by omega) (by omega) h1 ?_
        intro m hm hm2
        by_cases e : m = (i + j) / 2
        · rw [e]; exact hx
        · have := hs m ((i + j) / 2) (by omega) hm2; omega
    · have hij' : i = j := by omega
      subst hij'
      have hc := cnt_split L x i h1 L.length hj h2
      rw [if_neg (by omega), hc]
      by_cases h3 : (i : Int) < (L.length : Int)
      · rw [if_pos h3, if_pos (by omega), if_pos h3]
        by_cases h4 : rd L (i : Int) = x
        · rw [if_pos h4]; exact ⟨_, rfl⟩
        · rw [if_neg h4]; unfold slices_isNaN_int64.f; simp
      · rw [if_neg h3]; exact ⟨_, rfl⟩
theorem ahead_eq (k : Nat) (b l : Int) (L : List Int) (day : Int) (hL : L.length ≤ 60) (hk : 70 ≤ k) (ht : tabOk b l L = true) : leap_ahead.f k b l L day = some (b + (cnt L day L.length : Int)) := by
  unfold leap_ahead.f slices_BinarySearch_int64_int64.f
  simp only [tabOk, headOk, Bool.and_eq_true, decide_eq_true_eq] at ht
  obtain ⟨f, hf⟩ := bs_l0 L day hL (sorted_of ht.2) L.length k 0 L.length (by omega) (Nat.le_refl _) (by omega) (fun m hm => by omega) (fun m h1 h2 => by omega)
  have := cnt_le L day L.length
  rw [show ((0 : Nat) : Int) = 0 from rfl] at hf
  rw [hf]
  simp only [Option.bind_some]
  rw [R64.wrap (by unfold R64; omega)]
/-- when a day begins -/
def beg (b : Int) (L : List Int) (day : Int) : Int := 86400 * day + (b + (cnt L day L.length : Int))
theorem begin_eq (k : Nat) (b l : Int) (L : List Int) (day : Int) (hL : L.length ≤ 60) (hk : 70 ≤ k) (ht : tabOk b l L = true) (hd : -60000 ≤ day ∧ day ≤ 1000000000) : leap_begin.f k b l L day = some (beg b L day) := by
  unfold leap_begin.f beg
  rw [ahead_eq k b l L day hL hk ht]
  simp only [tabOk, headOk, Bool.and_eq_true, decide_eq_true_eq] at ht
  have := cnt_le L day L.length
  simp only [Option.bind_some]
  rw [show wrap64 (day * 86400) = 86400 * day from by rw [Int.mul_comm]; exact R64.wrap (by unfold R64; omega), R64.wrap (by unfold R64; omega)]
theorem second_l0 (b l : Int) (L : List Int) (x : Int) (hL : L.length ≤ 60) : ∀ (d k i : Nat) (s : Int), i + d = L.length → d < k → -1000000000000000 ≤ s → s + d ≤ 1000000000000100 →
    fuseeref09_Second.l0 k x s (i : Int) b l L = some (s + (cnt L x L.length : Int) - (cnt L x i : Int)) := by
  intro d
  induction d with
  | zero =>
    intro k i s hi hk _ _
    obtain ⟨k, rfl⟩ : ∃ m, k = m + 1 := ⟨k - 1, by omega⟩
    simp only [fuseeref09_Second.l0]
    rw [if_neg (by omega), show L.length = i by omega]; congr 1; omega
  | succ d ih =>
    intro k i s hi hk hs1 hs2
    obtain ⟨k, rfl⟩ : ∃ m, k = m + 1 := ⟨k - 1, by omega⟩
    simp only [fuseeref09_Second.l0]
    rw [if_pos (by omega), if_pos (by omega), wrapS (by omega)]
    have hc : cnt L x (i + 1) = cnt L x i + (if rd L i < x then 1 else 0) := rfl
    by_cases hx : rd L (i : Int) < x
    · rw [if_pos hx] at hc ⊢
      rw [show wrap64 (s + 1) = s + 1 from R64.wrap (by unfold R64; omega), ih k (i + 1) (s + 1) (by omega) (by omega) (by omega) (by omega), hc]; congr 1; omega
    · rw [if_neg hx] at hc ⊢
      rw [ih k (i + 1) s (by omega) (by omega) hs1 (by omega), hc]; simp
theorem second_eq (k : Nat) (b l : Int) (L : List Int) (day : Int) (hL : L.length ≤ 60) (hk : 70 ≤ k) (ht : tabOk b l L = true) (hd : -60000 ≤ day ∧ day ≤ 1000000000) : fuseeref09_Second.f k b l L day = some (beg b L day) := by
  unfold fuseeref09_Second.f beg
  simp only [tabOk, headOk, Bool.and_eq_true, decide_eq_true_eq] at ht
  rw [show wrap64 (86400 * day) = 86400 * day from R64.wrap (by unfold R64; omega), R64.wrap (by unfold R64; omega)]
  have := second_l0 b l L day hL L.length k 0 (86400 * day + b) (by omega) (by omega) (by omega) (by omega)
  rw [show ((0 : Nat) : Int) = 0 from rfl] at this
  rw [this]; congr 1; show 86400 * day + b + (cnt L day L.length : Int) - ((0 : Nat) : Int) = _; omega
theorem wr_none {b l : Int} {L : List Int} {day : Int} (h : wr b l L day = none) : tabOk b l L = true ∧ -50000 ≤ day ∧ day < l ∧ l ≤ 50000 ∧ -50000 ≤ l ∧ 0 ≤ b ∧ b ≤ 100 := by
  unfold wr at h
  by_cases ht : tabOk b l L = true
  · rw [if_pos ht] at h
    have ht' := ht
    simp only [tabOk, headOk, Bool.and_eq_true, decide_eq_true_eq] at ht'
    split at h
    · cases h
    · split at h
      · cases h
      · exact ⟨ht, by omega, by omega, by omega, by omega, by omega, by omega⟩
  · rw [if_neg ht] at h; cases h
/-- the value, if there is no error -/
def val (o : Option Int) (v : Int) : Int := match o with | none => v | some _ => 0
theorem Ahead_eq (k : Nat) (b l : Int) (L : List Int) (day : Int) (hL : L.length ≤ 60) (hk : 70 ≤ k) : leap_Ahead.f k b l L day = some (val (wr b l L day) (b + (cnt L day L.length : Int)), wr b l L day) := by
  unfold leap_Ahead.f
  rw [known_eq k b l L day hL hk]
  cases h : wr b l L day with
  | some c => simp [val]
  | none =>
    have hw := wr_none h
    simp only [Option.bind_some, Option.isNone_none, if_true]
    rw [ahead_eq k b l L day hL hk hw.1]; simp [val]
theorem Length_eq (k : Nat) (b l : Int) (L : List Int) (day : Int) (hL : L.length ≤ 60) (hk : 70 ≤ k) : leap_Length.f k b l L day = some (val (wr b l L day) (beg b L (day + 1) - beg b L day), wr b l L day) := by
  unfold leap_Length.f
  rw [known_eq k b l L day hL hk]
  cases h : wr b l L day with
  | some c => simp [val]
  | none =>
    have hw := wr_none h
    have c1 := cnt_le L day L.length
    have c2 := cnt_le L (day + 1) L.length
    simp only [Option.bind_some, Option.isNone_none, if_true]
    rw [show wrap64 (day + 1) = day + 1 from R64.wrap (by unfold R64; omega), begin_eq k b l L (day + 1) hL hk hw.1 (by omega), begin_eq k b l L day hL hk hw.1 (by omega)]
    simp only [Option.bind_some, val]
    rw [R64.wrap (by unfold R64 beg; omega)]
theorem Begin_eq (k : Nat) (b l : Int) (L : List Int) (day : Int) (hL : L.length ≤ 60) (hk : 70 ≤ k) : leap_Begin.f k b l L day = some (val (wr b l L day) (beg b L day * 1000000000), wr b l L day) := by
  unfold leap_Begin.f
  rw [known_eq k b l L day hL hk]
  cases h : wr b l L day with
  | some c => simp [val]
  | none =>
    have hw := wr_none h
    have c1 := cnt_le L day L.length
    simp only [Option.bind_some, Option.isNone_none, if_true]
    rw [begin_eq k b l L day hL hk hw.1 (by omega)]
    simp only [Option.bind_some, val]
    rw [R64.wrap (by unfold R64 beg; omega)]
/-! moments -/
theorem cnt_mono (L : List Int) {x y : Int} (h : x ≤ y) : ∀ i, cnt L x i ≤ cnt L y i
  | 0 => Nat.le_refl _
  | i + 1 => by
    have := cnt_mono L h i
    unfold cnt
    by_cases h1 : rd L i < x
    · rw [if_pos h1, if_pos (by omega)]; omega
    · rw [if_neg h1]; split <;> omega
theorem beg_mono (b : Int) (L : List Int) {x y : Int} (h : x ≤ y) : beg b L x + 86400 * (y - x) ≤ beg b L y := by
  have := cnt_mono L h L.length
  unfold beg; omega
theorem cnt_next (l : Int) (L : List Int) (d : Int) (h : rowsOk l L L.length 0 = true) : ∀ n, n ≤ L.length → cnt L (d + 1) n = cnt L d n ∨ (cnt L (d + 1) n = cnt L d n + 1 ∧ ∃ i : Nat, i < n ∧ rd L i = d)
  | 0, _ => .inl rfl
  | n + 1, hn => by
    have ih := cnt_next l L d h n (by omega)
    unfold cnt
    by_cases e : rd L n = d
    · rcases ih with ih | ⟨ih, i, hi, hd⟩
      · right
        rw [if_pos (by omega), if_neg (by omega)]
        exact ⟨by omega, n, by omega, e⟩
      · have := sorted_of h n i hi (by omega); omega
    · have e2 : (rd L n < d + 1) ↔ (rd L n < d) := by omega
      simp only [e2]
      rcases ih with ih | ⟨ih, i, hi, hd⟩
      · left; omega
      · right; exact ⟨by omega, i, by omega, hd⟩
/-- the day of a second -/
def dayOf (b : Int) (L : List Int) (s : Int) : Int := if s < beg b L (s / 86400) then s / 86400 - 1 else s / 86400
theorem tab_bounds {b l : Int} {L : List Int} (ht : tabOk b l L = true) : 0 ≤ b ∧ b ≤ 100 ∧ -50000 ≤ l ∧ l ≤ 50000 ∧ L.length ≤ 32 ∧ rowsOk l L L.length 0 = true := by
  simp only [tabOk, headOk, Bool.and_eq_true, decide_eq_true_eq] at ht
  exact ⟨by omega, by omega, by omega, by omega, by omega, ht.2⟩
theorem beg_bounds {b l : Int} {L : List Int} (ht : tabOk b l L = true) (d : Int) : 86400 * d ≤ beg b L d ∧ beg b L d ≤ 86400 * d + 132 := by
  have := tab_bounds ht
  have := cnt_le L d L.length
  unfold beg; omega
theorem dayOf_spec {b l : Int} {L : List Int} (ht : tabOk b l L = true) (s : Int) : beg b L (dayOf b L s) ≤ s ∧ s < beg b L (dayOf b L s + 1) := by
  unfold dayOf
  have h1 := beg_bounds ht (s / 86400)
  have h2 := beg_bounds ht (s / 86400 - 1)
  have h3 := beg_bounds ht (s / 86400 + 1)
  split
  · rw [Int.sub_add_cancel]; omega
  · omega
theorem dayOf_uniq {b l : Int} {L : List Int} (ht : tabOk b l L = true) {s d : Int} (h1 : beg b L d ≤ s) (h2 : s < beg b L (d + 1)) : d = dayOf b L s := by
  obtain ⟨h3, h4⟩ := dayOf_spec ht s
  rcases Int.lt_trichotomy d (dayOf b L s) with h | h | h
  · have := beg_mono b L (show d + 1 ≤ dayOf b L s by omega); omega
  · exact h
  · have := beg_mono b L (show dayOf b L s + 1 ≤ d by omega); omega
/-- a moment of so many nanoseconds, or the error -/
def utcC (b l : Int) (L : List Int) (a : Int) : Int × Int × Int × Option Int :=
  if a ≤ -4611686018427387904 ∨ 4611686018427387904 ≤ a ∨ a / 1000000000 < beg b L (-50000) then (0, 0, 0, some 2)
  else if beg b L l ≤ a / 1000000000 then (0, 0, 0, some 10)
  else (dayOf b L (a / 1000000000), a / 1000000000 - beg b L (dayOf b L (a / 1000000000)), a % 1000000000, none)
def utcR (b l : Int) (L : List Int) (a : Int) : Int × Int × Int × Option Int :=
  if tabOk b l L = true then utcC b l L a else (0, 0, 0, some 1)
theorem dayOf_range {b l : Int} {L : List Int} (ht : tabOk b l L = true) {s : Int} (h1 : beg b L (-50000) ≤ s) (h2 : s < beg b L l) : -50000 ≤ dayOf b L s ∧ dayOf b L s < l := by
  obtain ⟨h3, h4⟩ := dayOf_spec ht s
  constructor
  · refine Int.not_lt.1 fun h => ?_
    have := beg_mono b L (show dayOf b L s + 1 ≤ -50000 by omega); omega
  · refine Int.not_le.1 fun h => ?_
    have := beg_mono b L h; omega
theorem utc_l0 (k : Nat) (b l : Int) (L : List Int) (s n : Int) (hL : L.length ≤ 60) (hk : 80 ≤ k) (ht : tabOk b l L = true) (h1 : beg b L (-50000) ≤ s) (h2 : s < beg b L l) :
    leap_UTC.l0 k s n (s / 86400) b l L = some (dayOf b L s, s - beg b L (dayOf b L s), n, none) := by
  obtain ⟨k, rfl⟩ : ∃ m, k = m + 2 := ⟨k - 2, by omega⟩
  have hb := tab_bounds ht
  have hr := dayOf_range ht h1 h2
  have hs := dayOf_spec ht s
  have g1 := beg_bounds ht (-50000)
  have g2 := beg_bounds ht l
  have g3 := beg_bounds ht (dayOf b L s)
  have e0 : leap_begin.f (k + 1) b l L (s / 86400) = some (beg b L (s / 86400)) := begin_eq (k + 1) b l L _ hL (by omega) ht (by omega)
  have hd : dayOf b L s = if s < beg b L (s / 86400) then s / 86400 - 1 else s / 86400 := rfl
  by_cases hlt : s < beg b L (s / 86400)
  · rw [if_pos hlt] at hd
    simp only [leap_UTC.l0, e0, Option.bind_some]
    rw [if_pos hlt, show wrap64 (s / 86400 - 1) = dayOf b L s by rw [hd]; exact R64.wrap (by unfold R64; omega), begin_eq k b l L _ hL (by omega) ht (by omega)]
    simp only [Option.bind_some]
    rw [if_neg (by omega), R64.wrap (by unfold R64; omega)]
  · rw [if_neg hlt] at hd
    simp only [leap_UTC.l0, e0, Option.bind_some]
    rw [if_neg hlt, hd, R64.wrap (by unfold R64; rw [hd] at hs g3; omega)]
theorem UTC_eq (k : Nat) (b l : Int) (L : List Int) (a : Int) (hL : L.length ≤ 60) (hk : 200 ≤ k) (ha : R64 a) : leap_UTC.f k b l L a = some (utcR b l L a) := by
  obtain ⟨k, rfl⟩ : ∃ m, k = m + 1 := ⟨k - 1, by omega⟩
  unfold leap_UTC.f utcR
  rw [check_eq (k + 1) b l L hL (by omega)]
  by_cases ht : tabOk b l L = true
  · rw [if_pos ht, if_pos ht]
    unfold utcC
    have hb := tab_bounds ht
    simp only [Option.bind_some, Option.isNone_none, if_true]
    rw [pDiv a 1000000000 ha (by unfold R64; omega) (by omega)]
    simp only [Option.bind_some, Option.isNone_none, if_true]
    by_cases h1 : a ≤ -4611686018427387904
    · rw [if_pos h1, if_pos (.inl h1)]; simp only [leap_UTC.j0]; rfl
    rw [if_neg h1]
    by_cases h2 : a ≥ 4611686018427387904
    · rw [if_pos h2, if_pos (.inr (.inl h2))]; simp only [leap_UTC.j0]; rfl
    rw [if_neg h2, begin_eq (k + 1) b l L (-50000) hL (by omega) ht (by omega)]
    simp only [Option.bind_some, leap_UTC.j0]
    by_cases h3 : a / 1000000000 < beg b L (-50000)
    · rw [if_pos (by simpa using h3), if_pos (.inr (.inr h3))]
    rw [if_neg (by simpa using h3), if_neg (by omega), begin_eq k b l L l hL (by omega) ht (by omega)]
    simp only [Option.bind_some]
    by_cases h4 : a / 1000000000 ≥ beg b L l
    · rw [if_pos h4, if_pos h4]
    rw [if_neg h4, if_neg h4, pDiv (a / 1000000000) 86400 (by unfold R64; omega) (by unfold R64; omega) (by omega)]
    simp only [Option.bind_some, Option.isNone_none, if_true]
    exact utc_l0 k b l L _ _ hL (by omega) ht (by omega) (by omega)
  · rw [if_neg ht, if_neg ht]; simp
theorem rutc_l0 (b l : Int) (L : List Int) (a s : Int) (hL : L.length ≤ 60) (ht : tabOk b l L = true) (hs : s = a / 1000000000) (ha : R64 a) :
    ∀ (d k : Nat) (low high : Int), 80 + d ≤ k → -50000 ≤ low → high ≤ 50000 → low < high → high - low ≤ 2 ^ d → beg b L low ≤ s → s < beg b L high →
    fuseeref09_UTC.l0 k a s low high b l L = some (dayOf b L s, s - beg b L (dayOf b L s), a % 1000000000, 0) := by
  have last : ∀ (k : Nat) (low high : Int), 80 ≤ k → -50000 ≤ low → high ≤ 50000 → low < high → high - low ≤ 1 → beg b L low ≤ s → s < beg b L high →
      fuseeref09_UTC.l0 k a s low high b l L = some (dayOf b L s, s - beg b L (dayOf b L s), a % 1000000000, 0) := by
    intro k low high hk h1 h2 h3 h4 h5 h6
    obtain ⟨k, rfl⟩ : ∃ m, k = m + 1 := ⟨k - 1, by omega⟩
    have e : high = low + 1 := by omega
    subst e
    have hd := dayOf_uniq ht h5 h6
    have g := beg_bounds ht low
    simp only [fuseeref09_UTC.l0]
    rw [show wrap64 (low + 1 - low) = 1 by unfold wrap64; omega, if_neg (by omega), second_eq k b l L low hL (by omega) ht (by omega)]
    simp only [Option.bind_some]
    rw [← hd, R64.wrap (by unfold R64 at *; omega), show wrap64 (a - wrap64 (s * 1000000000)) = a % 1000000000 by
      rw [show wrap64 (s * 1000000000) = s * 1000000000 from R64.wrap (by unfold R64 at *; omega), R64.wrap (by unfold R64 at *; omega)]; omega]
  intro d
  induction d with
  | zero => intro k low high hk h1 h2 h3 h4 h5 h6; exact last k low high (by omega) h1 h2 h3 (by simpa using h4) h5 h6
  | succ d ih =>
    intro k low high hk h1 h2 h3 h4 h5 h6
    by_cases h7 : high - low ≤ 1
    · exact last k low high (by omega) h1 h2 h3 h7 h5 h6
    obtain ⟨k, rfl⟩ : ∃ m, k = m + 1 := ⟨k - 1, by omega⟩
    rw [Int.pow_succ] at h4
    have e1 : wrap64 (high - low) = high - low := R64.wrap (by unfold R64; omega)
    have e2 : wrap64 (low + high) = low + high := R64.wrap (by unfold R64; omega)
    have m1 : low < Int.tdiv (low + high) 2 ∧ Int.tdiv (low + high) 2 < high ∧ (Int.tdiv (low + high) 2 - low ≤ (high - low + 1) / 2) ∧ (high - Int.tdiv (low + high) 2 ≤ (high - low + 1) / 2) := by
      by_cases h0 : 0 ≤ low + high
      · rw [tdiv_of_nonneg h0]; omega
      · rw [tdiv_neg (by omega) (by omega)]; split <;> omega
    have e3 : wrap64 (Int.tdiv (low + high) 2) = Int.tdiv (low + high) 2 := R64.wrap (by unfold R64; omega)
    have hp : (1 : Int) ≤ 2 ^ d := by have := Int.pow_pos (n := 2) (m := d) (by omega); omega
    simp only [fuseeref09_UTC.l0, e1, e2, e3]
    rw [if_pos (by omega), second_eq k b l L _ hL (by omega) ht (by omega)]
    simp only [Option.bind_some]
    by_cases h8 : beg b L (Int.tdiv (low + high) 2) ≤ s
    · rw [if_pos h8]; exact ih k _ _ (by omega) (by omega) h2 (by omega) (by omega) h8 h6
    · rw [if_neg h8]; exact ih k _ _ (by omega) h1 (by omega) (by omega) (by omega) h5 (by omega)
theorem rUTC_eq (k : Nat) (b l : Int) (L : List Int) (a : Int) (hL : L.length ≤ 60) (hk : 200 ≤ k) (ha : R64 a) :
    fuseeref09_UTC.f k b l L a = some ((utcR b l L a).1, (utcR b l L a).2.1, (utcR b l L a).2.2.1, numE (utcR b l L a).2.2.2) := by
  obtain ⟨k, rfl⟩ : ∃ m, k = m + 3 := ⟨k - 3, by omega⟩
  unfold fuseeref09_UTC.f utcR
  rw [may_eq (k + 3) b l L hL (by omega)]
  by_cases ht : tabOk b l L = true
  · have hb := tab_bounds ht
    simp only [ht, if_true, Option.bind_some]
    by_cases h1 : a ≤ -4611686018427387904
    · unfold utcC; rw [if_pos h1, if_pos (.inl h1)]; simp [fuseeref09_UTC.j0, numE]
    rw [if_neg h1]
    simp only [fuseeref09_UTC.j0]
    by_cases h2 : a ≥ 4611686018427387904
    · unfold utcC; rw [if_pos (by simpa using h2), if_pos (.inr (.inl h2))]; rfl
    rw [if_neg (by simpa using h2)]
    have tail : fuseeref09_UTC.j2 (k + 1) a (a / 1000000000) b l L = some ((utcC b l L a).1, (utcC b l L a).2.1, (utcC b l L a).2.2.1, numE (utcC b l L a).2.2.2) := by
      unfold utcC
      simp only [fuseeref09_UTC.j2]
      rw [second_eq k b l L (-50000) hL (by omega) ht (by omega)]
      simp only [Option.bind_some]
      by_cases h3 : a / 1000000000 < beg b L (-50000)
      · rw [if_pos h3, if_pos (.inr (.inr h3))]; rfl
      rw [if_neg h3, if_neg (by omega), second_eq k b l L l hL (by omega) ht (by omega)]
      simp only [Option.bind_some]
      by_cases h4 : a / 1000000000 ≥ beg b L l
      · rw [if_pos h4, if_pos h4]; rfl
      rw [if_neg h4, if_neg h4]
      refine rutc_l0 b l L a _ hL ht rfl ha 17 k (-50000) l (by omega) (by omega) hb.2.2.2.1 ?_ (by omega) (by omega) (by omega)
      refine Int.not_le.1 fun h => ?_
      have := beg_mono b L h; omega
    have ew : wrap64 (Int.tdiv a 1000000000) = Int.tdiv a 1000000000 := R64.wrap (tdiv_range ha (by omega))
    by_cases h0 : a < 0
    · have et := tdiv_neg h0 (show (1 : Int) ≤ 1000000000 by omega)
      rw [if_pos h0, ew]
      simp only [fuseeref09_UTC.j1]
      by_cases h9 : a % 1000000000 = 0
      · rw [if_pos h9] at et
        rw [et, show wrap64 ((a / 1000000000 + 0) * 1000000000) = a by rw [R64.wrap (by unfold R64 at *; omega)]; omega, if_neg (by simp), Int.add_zero]
        exact tail
      · rw [if_neg h9] at et
        have hw : wrap64 ((a / 1000000000 + 1) * 1000000000) ≠ a := by rw [R64.wrap (by unfold R64 at *; omega)]; omega
        rw [et, if_pos (by simpa using hw), show wrap64 (a / 1000000000 + 1 - 1) = a / 1000000000 by rw [R64.wrap (by unfold R64 at *; omega)]; omega]
        exact tail
    · rw [if_neg h0, ew, tdiv_of_nonneg (by omega)]
      simp only [fuseeref09_UTC.j1]
      rw [if_neg (by simp)]
      exact tail
  · simp [ht, numE]
/-- nanoseconds of a moment, or the error -/
def taiR (b l : Int) (L : List Int) (d s n : Int) : Int × Option Int :=
  if tabOk b l L = true ∧ 0 ≤ n ∧ n < 1000000000 ∧ 0 ≤ s then
    (match wr b l L d with
     | some c => (0, some c)
     | none => if beg b L (d + 1) - beg b L d ≤ s then (0, some 1) else ((beg b L d + s) * 1000000000 + n, none))
  else (0, some 1)
theorem TAI_eq (k : Nat) (b l : Int) (L : List Int) (d s n : Int) (hL : L.length ≤ 60) (hk : 200 ≤ k) : leap_TAI.f k b l L d s n = some (taiR b l L d s n) := by
  obtain ⟨k, rfl⟩ : ∃ m, k = m + 2 := ⟨k - 2, by omega⟩
  unfold leap_TAI.f taiR
  rw [check_eq (k + 2) b l L hL (by omega)]
  by_cases ht : tabOk b l L = true
  rotate_left
  · simp [ht, leap_TAI.j0]
  by_cases h1 : n < 0
  · simp [ht, h1, leap_TAI.j0, show ¬ 0 ≤ n by omega]
  by_cases h2 : n ≥ 1000000000
  · simp [ht, h1, h2, leap_TAI.j0, show ¬ n < 1000000000 by omega]
  by_cases h3 : s < 0
  · simp [ht, h1, h2, h3, leap_TAI.j0, show ¬ 0 ≤ s by omega]
  have hb := tab_bounds ht
  simp only [ht, if_true, Option.bind_some, Option.isNone_none, h1, h2, h3, if_false, decide_false, leap_TAI.j0, Bool.false_eq_true]
  rw [if_pos ⟨trivial, by omega, by omega, by omega⟩, Length_eq (k + 1) b l L d hL (by omega)]
  cases hw : wr b l L d with
  | some c => simp [val]
  | none =>
    have hw' := wr_none hw
    simp only [Option.bind_some, Option.isNone_none, if_true, val]
    by_cases h4 : s ≥ beg b L (d + 1) - beg b L d
    · rw [if_pos h4, if_pos h4]
    rw [if_neg h4, if_neg h4]
    have hn := cnt_next l L d hb.2.2.2.2.2 L.length (Nat.le_refl _)
    have hs : s ≤ 86400 := by
      unfold beg at h4
      rcases hn with e | ⟨e, _⟩ <;> omega
    have ed : ∃ x y z, daytime_Of.f (k + 1) s = some (x, y, z, none) := by
      unfold daytime_Of.f
      rw [if_neg h3]
      simp only [daytime_Of.j0]
      rw [if_neg (by simp; omega)]
      split
      · exact ⟨_, _, _, rfl⟩
      · exact ⟨_, _, _, rfl⟩
    obtain ⟨x, y, z, ed⟩ := ed
    rw [ed]
    simp only [Option.bind_some, Option.isNone_none, if_true]
    rw [begin_eq (k + 1) b l L d hL (by omega) ht (by omega)]
    simp only [Option.bind_some]
    have g := beg_bounds ht d
    rw [show wrap64 (beg b L d + s) = beg b L d + s from R64.wrap (by unfold R64; omega), show wrap64 ((beg b L d + s) * 1000000000) = (beg b L d + s) * 1000000000 from R64.wrap (by unfold R64; omega), R64.wrap (by unfold R64; omega)]
theorem rTAI_eq (k : Nat) (b l : Int) (L : List Int) (d s n : Int) (hL : L.length ≤ 60) (hk : 200 ≤ k) : fuseeref09_TAI.f k b l L d s n = some ((taiR b l L d s n).1, numE (taiR b l L d s n).2) := by
  obtain ⟨k, rfl⟩ : ∃ m, k = m + 2 := ⟨k - 2, by omega⟩
  unfold fuseeref09_TAI.f taiR
  rw [may_eq (k + 2) b l L hL (by omega)]
  by_cases ht : tabOk b l L = true
  rotate_left
  · simp [ht, fuseeref09_TAI.j0, numE]
  by_cases h1 : n < 0
  · simp [ht, h1, fuseeref09_TAI.j0, show ¬ 0 ≤ n by omega, numE]
  by_cases h2 : n > 999999999
  · simp [ht, h1, h2, fuseeref09_TAI.j0, show ¬ n < 1000000000 by omega, numE]
  by_cases h3 : s < 0
  · simp [ht, h1, h2, h3, fuseeref09_TAI.j0, show ¬ 0 ≤ s by omega, numE]
  have hb := tab_bounds ht
  simp only [ht, if_true, Option.bind_some, h1, h2, h3, if_false, decide_false, fuseeref09_TAI.j0, Bool.false_eq_true]
  rw [if_pos ⟨trivial, by omega, by omega, by omega⟩, wrong_eq (k + 1) b l L d hL (by omega)]
  cases hw : wr b l L d with
  | some c =>
    have hc : c ≠ 0 := by unfold wr at hw; rw [if_pos ht] at hw; (repeat' split at hw) <;> simp at hw <;> omega
    simp [numE, hc]
  | none =>
    have hw' := wr_none hw
    simp only [Option.bind_some, numE, if_true]
    rw [show wrap64 (d + 1) = d + 1 from R64.wrap (by unfold R64; omega), second_eq (k + 1) b l L (d + 1) hL (by omega) ht (by omega), second_eq (k + 1) b l L d hL (by omega) ht (by omega)]
    simp only [Option.bind_some]
    have g := beg_bounds ht d
    have g2 := beg_bounds ht (d + 1)
    rw [show wrap64 (beg b L (d + 1) - beg b L d) = beg b L (d + 1) - beg b L d from R64.wrap (by unfold R64; omega)]
    by_cases h4 : s ≥ beg b L (d + 1) - beg b L d
    · rw [if_pos h4, if_pos h4]
    rw [if_neg h4, if_neg h4]
    rw [show wrap64 (beg b L d + s) = beg b L d + s from R64.wrap (by unfold R64; omega), show wrap64 ((beg b L d + s) * 1000000000) = (beg b L d + s) * 1000000000 from R64.wrap (by unfold R64; omega), R64.wrap (by unfold R64; omega)]
end Go.Proofs.YtnlaiiophongmaaDoor.PLeapMoments
