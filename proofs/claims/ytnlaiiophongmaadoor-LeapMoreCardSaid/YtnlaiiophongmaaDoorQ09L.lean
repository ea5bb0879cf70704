/-
  LeapMore in plain numbers.
-/
import Derived.Test.YtnlaiiophongmaaDoorK
import Derived.Test.YtnlaiiophongmaaDoorMath
import Derived.Test.YtnlaiiophongmaaDoorMLeapMorex
namespace Go.Proofs.YtnlaiiophongmaaDoor.MLeapMore
open Go.RowKit Go.Proofs.YtnlaiiophongmaaDoorW.PrintWords Go.Proofs.YtnlaiiophongmaaDoorW.PrintMore
set_option linter.unusedVariables false
set_option linter.unusedSimpArgs false

theorem pDiv (a b : Int) (ha : R64 a) (hb : R64 b) (h : 1 ≤ b) : num_Div.f a b = some (a / b, a % b, none) := by
  unfold num_Div.f
  have hr0 := Int.emod_nonneg a (show b ≠ 0 by omega)
  have hr1 := Int.emod_lt_of_pos a (show 0 < b by omega)
  have hq := div_bounds ha h
  have ht := (tdiv_range ha h).wrap
  rw [if_neg (by omega), if_neg (by omega), ht]
  rcases Int.lt_or_le a 0 with h0 | h0
  · have e1 := tdiv_neg h0 h
    have e2 := tmod_neg h0 h
    by_cases hz : a % b = 0
    · rw [if_pos hz] at e1 e2
      rw [if_neg (by omega), e1, e2]; simp
    · rw [if_neg hz] at e1 e2
      rw [if_pos (by omega), e1, e2, R64.wrap (by simpa using hq.1), R64.wrap (by unfold R64 at *; omega)]; simp
  · rw [Int.tmod_eq_emod_of_nonneg h0, tdiv_of_nonneg h0, if_neg (by omega)]
theorem pDivBad (a b : Int) (h : b < 1) : num_Div.f a b = some (0, 0, some 1) := by unfold num_Div.f; rw [if_pos h]

def rowOk (l : Int) (L : List Int) (i : Nat) : Bool := decide (-50000 ≤ rd L i) && decide (rd L i < l) && (decide (i = 0) || decide (rd L ((i : Int) - 1) < rd L i))
def rowsOk (l : Int) (L : List Int) : Nat → Nat → Bool
  | 0, _ => true
  | d + 1, i => rowOk l L i && rowsOk l L d (i + 1)
def headOk (b l : Int) (L : List Int) : Bool := decide (0 ≤ b) && decide (b ≤ 100) && decide (-50000 ≤ l) && decide (l ≤ 50000) && decide ((L.length : Int) ≤ 32)
def tabOk (b l : Int) (L : List Int) : Bool := headOk b l L && rowsOk l L L.length 0
theorem wrapS {i : Nat} (h : i < 1000) : wrap64 ((i : Int) + 1) = ((i + 1 : Nat) : Int) := by unfold wrap64; omega
theorem check_l0 (b l : Int) (L : List Int) (hL : L.length ≤ 60) : ∀ (d k i : Nat), i + d = L.length → d < k → leap_Check.l0 k L (L.length : Int) (i : Int) b l L = some (if rowsOk l L d i = true then none else some 1) := by
  intro d
  induction d with
  | zero =>
    intro k i hi hk
    obtain ⟨k, rfl⟩ : ∃ m, k = m + 1 := ⟨k - 1, by omega⟩
    simp only [leap_Check.l0]
    rw [if_neg (by omega)]; simp [rowsOk]
  | succ d ih =>
    intro k i hi hk
    obtain ⟨k, rfl⟩ : ∃ m, k = m + 1 := ⟨k - 1, by omega⟩
    have ih' := ih k (i + 1) (by omega) (by omega)
    simp only [leap_Check.l0]
    rw [if_pos (by omega), if_pos (by omega), if_pos (by omega), wrapS (by omega), ih']
    simp only [rowsOk, rowOk]
    by_cases h1 : rd L i < -50000
    · rw [if_pos h1]; simp [show ¬ (-50000 ≤ rd L i) by omega]
    · rw [if_neg h1]
      by_cases h2 : rd L i ≥ l
      · rw [if_pos h2]; simp [show ¬ (rd L i < l) by omega]
      · rw [if_neg h2]
        by_cases h3 : i = 0
        · rw [if_neg (by omega)]; subst h3; simp at h1 h2 ⊢; simp [h1, h2]
        · rw [if_pos (by omega), show wrap64 ((i : Int) - 1) = (i : Int) - 1 from R64.wrap (by unfold R64; omega), if_pos (by omega), if_pos (by omega)]
          by_cases h4 : rd L ((i : Int) - 1) ≥ rd L i
          · rw [if_pos h4]; simp [show ¬ (rd L ((i : Int) - 1) < rd L i) by omega, h3]
          · rw [if_neg h4]; simp [show rd L ((i : Int) - 1) < rd L i by omega, show -50000 ≤ rd L i by omega, show rd L i < l by omega]
theorem check_eq (k : Nat) (b l : Int) (L : List Int) (hL : L.length ≤ 60) (hk : 70 ≤ k) : leap_Check.f k b l L = some (if tabOk b l L = true then none else some 1) := by
  obtain ⟨k, rfl⟩ : ∃ m, k = m + 1 := ⟨k - 1, by omega⟩
  have h0 := check_l0 b l L hL L.length k 0 (by omega) (by omega)
  unfold leap_Check.f tabOk headOk
  by_cases h1 : b < 0
  · rw [if_pos h1]; simp [leap_Check.j0, show ¬ (0 ≤ b) by omega]
  rw [if_neg h1]
  by_cases h2 : b > 100
  · rw [if_pos h2]; simp [leap_Check.j0, show ¬ (b ≤ 100) by omega]
  rw [if_neg h2]
  by_cases h3 : l < -50000
  · rw [if_pos h3]; simp [leap_Check.j0, show ¬ (-50000 ≤ l) by omega]
  rw [if_neg h3]
  by_cases h4 : l > 50000
  · rw [if_pos h4]; simp [leap_Check.j0, show ¬ (l ≤ 50000) by omega]
  rw [if_neg h4]
  simp only [leap_Check.j0]
  by_cases h5 : (L.length : Int) > 32
  · rw [if_pos (by simpa using h5)]; simp [show ¬ ((L.length : Int) ≤ 32) by omega]
  · rw [if_neg (by simpa using h5)]
    refine h0.trans ?_
    simp [show 0 ≤ b by omega, show b ≤ 100 by omega, show -50000 ≤ l by omega, show l ≤ 50000 by omega, show (L.length : Int) ≤ 32 by omega]
def wr (b l : Int) (L : List Int) (day : Int) : Option Int := if tabOk b l L = true then (if day < -50000 then some 2 else if day ≥ l then some 10 else none) else some 1
theorem known_eq (k : Nat) (b l : Int) (L : List Int) (day : Int) (hL : L.length ≤ 60) (hk : 70 ≤ k) : leap_known.f k b l L day = some (wr b l L day) := by
  unfold leap_known.f wr
  rw [check_eq k b l L hL hk]
  cases tabOk b l L <;> simp
  split <;> (try split) <;> rfl
def cnt (L : List Int) (x : Int) : Nat → Nat
  | 0 => 0
  | i + 1 => cnt L x i + (if rd L i < x then 1 else 0)
theorem cnt_le (L : List Int) (x : Int) : ∀ i, cnt L x i ≤ i
  | 0 => Nat.le_refl _
  | i + 1 => by have := cnt_le L x i; unfold cnt; split <;> omega
theorem cnt_split (L : List Int) (x : Int) (p : Nat) (h1 : ∀ i, i < p → rd L (i : Nat) < x) : ∀ n, p ≤ n → (∀ i, p ≤ i → i < n → ¬ rd L (i : Nat) < x) → cnt L x n = p := by
  have base : ∀ m, m ≤ p → cnt L x m = m := by
    intro m
    induction m with
    | zero => intro _; rfl
    | succ m ih => intro hm; unfold cnt; rw [ih (by omega), if_pos (h1 m (by omega))]
  intro n
  induction n with
  | zero => intro hp _; have e : p = 0 := by omega
            rw [e]; rfl
  | succ n ih =>
    intro hp h2
    by_cases e : p = n + 1
    · rw [e] at base ⊢; exact base _ (Nat.le_refl _)
    · unfold cnt
      rw [ih (by omega) (fun i a c => h2 i a (by omega)), if_neg (h2 n (by omega) (by omega))]; rfl
theorem rows_at {l : Int} {L : List Int} : ∀ (d i : Nat), rowsOk l L d i = true → ∀ j, i ≤ j → j < i + d → rowOk l L j = true
  | 0, i, _, j, h1, h2 => by omega
  | d + 1, i, h, j, h1, h2 => by
    simp only [rowsOk, Bool.and_eq_true] at h
    by_cases e : j = i
    · rw [e]; exact h.1
    · exact rows_at d (i + 1) h.2 j (by omega) (by omega)
theorem sorted_of {l : Int} {L : List Int} (h : rowsOk l L L.length 0 = true) : ∀ j i : Nat, i < j → j < L.length → rd L (i : Nat) < rd L (j : Nat) := by
  intro j
  induction j with
  | zero => intro i hi; omega
  | succ j ih =>
    intro i hi hj
    have hr := rows_at L.length 0 h (j + 1) (by omega) (by omega)
    simp only [rowOk, Bool.and_eq_true, Bool.or_eq_true, decide_eq_true_eq] at hr
    have h3 : rd L (j : Nat) < rd L ((j + 1 : Nat) : Int) := by
      rcases hr.2 with e | e
      · omega
      · have e2 : ((j + 1 : Nat) : Int) - 1 = (j : Int) := by omega
        rw [e2] at e; exact e
    by_cases e : i = j
    · rw [e]; exact h3
    · have := ih i (by omega) (by omega); omega
theorem less_eq (a b : Int) : cmp_Less_int64.f a b = some (decide (a < b)) := by
  unfold cmp_Less_int64.f cmp_isNaN_int64.f; simp
theorem bs_l0 (L : List Int) (x : Int) (hL : L.length ≤ 60) (hs : ∀ j i : Nat, i < j → j < L.length → rd L (i : Nat) < rd L (j : Nat)) :
    ∀ (d k i j : Nat), i + d = j → j ≤ L.length → d < k → (∀ m : Nat, m < i → rd L (m : Nat) < x) → (∀ m : Nat, j ≤ m → m < L.length → ¬ rd L (m : Nat) < x) →
    ∃ f, slices_BinarySearch_int64_int64.l0 k L x (L.length : Int) (i : Int) (j : Int) = some ((cnt L x L.length : Int), f) := by
  intro d
  induction d using Nat.strongRecOn with
  | ind d ih =>
    intro k i j hij hj hk h1 h2
    obtain ⟨k, rfl⟩ : ∃ m, k = m + 1 := ⟨k - 1, by omega⟩
    simp only [slices_BinarySearch_int64_int64.l0]
    by_cases hlt : i < j
    · have hw : wrap64 ((IntKind.u64.wrap (wrap64 ((i : Int) + (j : Int)))) / 2) = (((i + j) / 2 : Nat) : Int) := by
        have e1 : wrap64 ((i : Int) + (j : Int)) = (i : Int) + (j : Int) := R64.wrap (by unfold R64; omega)
        have e2 : IntKind.u64.wrap ((i : Int) + (j : Int)) = (i : Int) + (j : Int) := by
          simp only [IntKind.wrap, IntKind.bits, IntKind.signed]
          simp; omega
        rw [e1, e2, R64.wrap (by unfold R64; omega)]; omega
      rw [if_pos (by omega), hw, if_pos (by omega), if_pos (by omega), less_eq]
      simp only [Option.bind_some]
      by_cases hx : rd L (((i + j) / 2 : Nat) : Int) < x
      · rw [if_pos (by simpa using hx), wrapS (by omega)]
        refine ih (j - ((i + j) / 2 + 1)) (by omega) k ((i + j) / 2 + 1) j (by omega) hj (by omega) ?_ h2
        intro m hm
        by_cases e : m = (i + j) / 2
        · rw [e]; exact hx
        · have := hs ((i + j) / 2) m (by omega) (by omega); omega
      · rw [if_neg (by simpa using hx)]
        refine ih ((i + j) / 2 - i) (by omega) k i ((i + j) / 2) (by omega) (by omega) (by omega) h1 ?_
        intro m hm hm2
        by_cases e : m = (i + j) / 2
        · rw [e]; exact hx
        · have := hs m ((i + j) / 2) (by omega) hm2; omega
    · have hij' : i = j := by omega
      subst hij'
      have hc := cnt_split L x i h1 L.length hj h2
      rw [if_neg (by omega), hc]
      by_cases h3 : (i : Int) < (L.length : Int)
      · rw [if_pos h3, if_pos (by omega), if_pos h3]
        by_cases h4 : rd L (i : Int) = x
        · rw [if_pos h4]; exact ⟨_, rfl⟩
        · rw [if_neg h4]; unfold slices_isNaN_int64.f; simp
      · rw [if_neg h3]; exact ⟨_, rfl⟩
theorem ahead_eq (k : Nat) (b l : Int) (L : List Int) (day : Int) (hL : L.length ≤ 60) (hk : 70 ≤ k) (ht : tabOk b l L = true) : leap_ahead.f k b l L day = some (b + (cnt L day L.length : Int)) := by
  unfold leap_ahead.f slices_BinarySearch_int64_int64.f
  simp only [tabOk, headOk, Bool.and_eq_true, decide_eq_true_eq] at ht
  obtain ⟨f, hf⟩ := bs_l0 L day hL (sorted_of ht.2) L.length k 0 L.length (by omega) (Nat.le_refl _) (by omega) (fun m hm => by omega) (fun m h1 h2 => by omega)
  have := cnt_le L day L.length
  rw [show ((0 : Nat) : Int) = 0 from rfl] at hf
  rw [hf]
  simp only [Option.bind_some]
  rw [R64.wrap (by unfold R64; omega)]
def beg (b : Int) (L : List Int) (day : Int) : Int := 86400 * day + (b + (cnt L day L.length : Int))
theorem begin_eq (k : Nat) (b l : Int) (L : List Int) (day : Int) (hL : L.length ≤ 60) (hk : 70 ≤ k) (ht : tabOk b l L = true) (hd : -60000 ≤ day ∧ day ≤ 1000000000) : leap_begin.f k b l L day = some (beg b L day) := by
  unfold leap_begin.f beg
  rw [ahead_eq k b l L day hL hk ht]
  simp only [tabOk, headOk, Bool.and_eq_true, decide_eq_true_eq] at ht
  have := cnt_le L day L.length
  simp only [Option.bind_some]
  rw [show wrap64 (day * 86400) = 86400 * day from by rw [Int.mul_comm]; exact R64.wrap (by unfold R64; omega), R64.wrap (by unfold R64; omega)]
theorem wr_none {b l : Int} {L : List Int} {day : Int} (h : wr b l L day = none) : tabOk b l L = true ∧ -50000 ≤ day ∧ day < l ∧ l ≤ 50000 ∧ -50000 ≤ l ∧ 0 ≤ b ∧ b ≤ 100 := by
  unfold wr at h
  by_cases ht : tabOk b l L = true
  · rw [if_pos ht] at h
    have ht' := ht
    simp only [tabOk, headOk, Bool.and_eq_true, decide_eq_true_eq] at ht'
    split at h
    · cases h
    · split at h
      · cases h
      · exact ⟨ht, by omega, by omega, by omega, by omega, by omega, by omega⟩
  · rw [if_neg ht] at h; cases h
def val (o : Option Int) (v : Int) : Int := match o with | none => v | some _ => 0
theorem Begin_eq (k : Nat) (b l : Int) (L : List Int) (day : Int) (hL : L.length ≤ 60) (hk : 70 ≤ k) : leap_Begin.f k b l L day = some (val (wr b l L day) (beg b L day * 1000000000), wr b l L day) := by
  unfold leap_Begin.f
  rw [known_eq k b l L day hL hk]
  cases h : wr b l L day with
  | some c => simp [val]
  | none =>
    have hw := wr_none h
    have c1 := cnt_le L day L.length
    simp only [Option.bind_some, Option.isNone_none, if_true]
    rw [begin_eq k b l L day hL hk hw.1 (by omega)]
    simp only [Option.bind_some, val]
    rw [R64.wrap (by unfold R64 beg; omega)]
/-! moments -/
theorem cnt_mono (L : List Int) {x y : Int} (h : x ≤ y) : ∀ i, cnt L x i ≤ cnt L y i
  | 0 => Nat.le_refl _
  | i + 1 => by
    have := cnt_mono L h i
    unfold cnt
    by_cases h1 : rd L i < x
    · rw [if_pos h1, if_pos (by omega)]; omega
    · rw [if_neg h1]; split <;> omega
theorem beg_mono (b : Int) (L : List Int) {x y : Int} (h : x ≤ y) : beg b L x + 86400 * (y - x) ≤ beg b L y := by
  have := cnt_mono L h L.length
  unfold beg; omega
theorem cnt_next (l : Int) (L : List Int) (d : Int) (h : rowsOk l L L.length 0 = true) : ∀ n, n ≤ L.length → cnt L (d + 1) n = cnt L d n ∨ (cnt L (d + 1) n = cnt L d n + 1 ∧ ∃ i : Nat, i < n ∧ rd L i = d)
  | 0, _ => .inl rfl
  | n + 1, hn => by
    have ih := cnt_next l L d h n (by omega)
    unfold cnt
    by_cases e : rd L n = d
    · rcases ih with ih | ⟨ih, i, hi, hd⟩
      · right
        rw [if_pos (by omega), if_neg (by omega)]
        exact ⟨by omega, n, by omega, e⟩
      · have := sorted_of h n i hi (by omega); omega
    · have e2 : (rd L n < d + 1) ↔ (rd L n < d) := by omega
      simp only [e2]
      rcases ih with ih | ⟨ih, i, hi, hd⟩
      · left; omega
      · right; exact ⟨by omega, i, by omega, hd⟩
def dayOf (b : Int) (L : List Int) (s : Int) : Int := if s < beg b L (s / 86400) then s / 86400 - 1 else s / 86400
theorem tab_bounds {b l : Int} {L : List Int} (ht : tabOk b l L = true) : 0 ≤ b ∧ b ≤ 100 ∧ -50000 ≤ l ∧ l ≤ 50000 ∧ L.length ≤ 32 ∧ rowsOk l L L.length 0 = true := by
  simp only [tabOk, headOk, Bool.and_eq_true, decide_eq_true_eq] at ht
  exact ⟨by omega, by omega, by omega, by omega, by omega, ht.2⟩
theorem beg_bounds {b l : Int} {L : List Int} (ht : tabOk b l L = true) (d : Int) : 86400 * d ≤ beg b L d ∧ beg b L d ≤ 86400 * d + 132 := by
  have := tab_bounds ht
  have := cnt_le L d L.length
  unfold beg; omega
theorem dayOf_spec {b l : Int} {L : List Int} (ht : tabOk b l L = true) (s : Int) : beg b L (dayOf b L s) ≤ s ∧ s < beg b L (dayOf b L s + 1) := by
  unfold dayOf
  have h1 := beg_bounds ht (s / 86400)
  have h2 := beg_bounds ht (s / 86400 - 1)
  have h3 := beg_bounds ht (s / 86400 + 1)
  split
  · rw [Int.sub_add_cancel]; omega
  · omega
theorem dayOf_uniq {b l : Int} {L : List Int} (ht : tabOk b l L = true) {s d : Int} (h1 : beg b L d ≤ s) (h2 : s < beg b L (d + 1)) : d = dayOf b L s := by
  obtain ⟨h3, h4⟩ := dayOf_spec ht s
  rcases Int.lt_trichotomy d (dayOf b L s) with h | h | h
  · have := beg_mono b L (show d + 1 ≤ dayOf b L s by omega); omega
  · exact h
  · have := beg_mono b L (show dayOf b L s + 1 ≤ d by omega); omega
def utcC (b l : Int) (L : List Int) (a : Int) : Int × Int × Int × Option Int :=
  if a ≤ -4611686018427387904 ∨ 4611686018427387904 ≤ a ∨ a / 1000000000 < beg b L (-50000) then (0, 0, 0, some 2)
  else if beg b L l ≤ a / 1000000000 then (0, 0, 0, some 10)
  else (dayOf b L (a / 1000000000), a / 1000000000 - beg b L (dayOf b L (a / 1000000000)), a % 1000000000, none)
def utcR (b l : Int) (L : List Int) (a : Int) : Int × Int × Int × Option Int :=
  if tabOk b l L = true then utcC b l L a else (0, 0, 0, some 1)
theorem dayOf_range {b l : Int} {L : List Int} (ht : tabOk b l L = true) {s : Int} (h1 : beg b L (-50000) ≤ s) (h2 : s < beg b L l) : -50000 ≤ dayOf b L s ∧ dayOf b L s < l := by
  obtain ⟨h3, h4⟩ := dayOf_spec ht s
  constructor
  · refine Int.not_lt.1 fun h => ?_
    have := beg_mono b L (show dayOf b L s + 1 ≤ -50000 by omega); omega
  · refine Int.not_le.1 fun h => ?_
    have := beg_mono b L h; omega
theorem utc_l0 (k : Nat) (b l : Int) (L : List Int) (s n : Int) (hL : L.length ≤ 60) (hk : 80 ≤ k) (ht : tabOk b l L = true) (h1 : beg b L (-50000) ≤ s) (h2 : s < beg b L l) :
    leap_UTC.l0 k s n (s / 86400) b l L = some (dayOf b L s, s - beg b L (dayOf b L s), n, none) := by
  obtain ⟨k, rfl⟩ : ∃ m, k = m + 2 := ⟨k - 2, by omega⟩
  have hb := tab_bounds ht
  have hr := dayOf_range ht h1 h2
  have hs := dayOf_spec ht s
  have g1 := beg_bounds ht (-50000)
  have g2 := beg_bounds ht l
  have g3 := beg_bounds ht (dayOf b L s)
  have e0 : leap_begin.f (k + 1) b l L (s / 86400) = some (beg b L (s / 86400)) := begin_eq (k + 1) b l L _ hL (by omega) ht (by omega)
  have hd : dayOf b L s = if s < beg b L (s / 86400) then s / 86400 - 1 else s / 86400 := rfl
  by_cases hlt : s < beg b L (s / 86400)
  · rw [if_pos hlt] at hd
    simp only [leap_UTC.l0, e0, Option.bind_some]
    rw [if_pos hlt, show wrap64 (s / 86400 - 1) = dayOf b L s by rw [hd]; exact R64.wrap (by unfold R64; omega), begin_eq k b l L _ hL (by omega) ht (by omega)]
    simp only [Option.bind_some]
    rw [if_neg (by omega), R64.wrap (by unfold R64; omega)]
  · rw [if_neg hlt] at hd
    simp only [leap_UTC.l0, e0, Option.bind_some]
    rw [if_neg hlt, hd, R64.wrap (by unfold R64; rw [hd] at hs g3; omega)]
theorem UTC_eq (k : Nat) (b l : Int) (L : List Int) (a : Int) (hL : L.length ≤ 60) (hk : 200 ≤ k) (ha : R64 a) : leap_UTC.f k b l L a = some (utcR b l L a) := by
  obtain ⟨k, rfl⟩ : ∃ m, k = m + 1 := ⟨k - 1, by omega⟩
  unfold leap_UTC.f utcR
  rw [check_eq (k + 1) b l L hL (by omega)]
  by_cases ht : tabOk b l L = true
  · rw [if_pos ht, if_pos ht]
    unfold utcC
    have hb := tab_bounds ht
    simp only [Option.bind_some, Option.isNone_none, if_true]
    rw [pDiv a 1000000000 ha (by unfold R64; omega) (by omega)]
    simp only [Option.bind_some, Option.isNone_none, if_true]
    by_cases h1 : a ≤ -4611686018427387904
    · rw [if_pos h1, if_pos (.inl h1)]; simp only [leap_UTC.j0]; rfl
    rw [if_neg h1]
    by_cases h2 : a ≥ 4611686018427387904
    · rw [if_pos h2, if_pos (.inr (.inl h2))]; simp only [leap_UTC.j0]; rfl
    rw [if_neg h2, begin_eq (k + 1) b l L (-50000) hL (by omega) ht (by omega)]
    simp only [Option.bind_some, leap_UTC.j0]
    by_cases h3 : a / 1000000000 < beg b L (-50000)
    · rw [if_pos (by simpa using h3), if_pos (.inr (.inr h3))]
    rw [if_neg (by simpa using h3), if_neg (by omega), begin_eq k b l L l hL (by omega) ht (by omega)]
    simp only [Option.bind_some]
    by_cases h4 : a / 1000000000 ≥ beg b L l
    · rw [if_pos h4, if_pos h4]
    rw [if_neg h4, if_neg h4, pDiv (a / 1000000000) 86400 (by unfold R64; omega) (by unfold R64; omega) (by omega)]
    simp only [Option.bind_some, Option.isNone_none, if_true]
    exact utc_l0 k b l L _ _ hL (by omega) ht (by omega) (by omega)
  · rw [if_neg ht, if_neg ht]; simp
theorem utc_none {b l a u0 u1 u2 : Int} {L : List Int} (h : utcR b l L a = (u0, u1, u2, none)) :
    tabOk b l L = true ∧ beg b L u0 ≤ a / 1000000000 ∧ a / 1000000000 < beg b L (u0 + 1) ∧ u1 = a / 1000000000 - beg b L u0 ∧ u2 = a % 1000000000 ∧ -50000 ≤ u0 ∧ u0 < l := by
  unfold utcR at h
  by_cases ht : tabOk b l L = true
  · rw [if_pos ht] at h
    unfold utcC at h
    split at h
    · simp at h
    · split at h
      · simp at h
      · next h1 h2 =>
        simp only [Prod.mk.injEq] at h
        obtain ⟨h3, h4, h5, _⟩ := h
        have hs := dayOf_spec ht (a / 1000000000)
        have hr := dayOf_range ht (s := a / 1000000000) (by omega) (by omega)
        rw [h3] at hs hr h4
        exact ⟨ht, hs.1, hs.2, h4.symm, h5.symm, hr.1, hr.2⟩
  · rw [if_neg ht] at h; simp at h
theorem wr_in {b l d : Int} {L : List Int} (ht : tabOk b l L = true) (h1 : -50000 ≤ d) (h2 : d < l) : wr b l L d = none := by
  unfold wr; rw [if_pos ht, if_neg (by omega), if_neg (by omega)]
theorem wr_past {b l d : Int} {L : List Int} (ht : tabOk b l L = true) (h1 : -50000 ≤ d) (h2 : ¬ d < l) : wr b l L d = some 10 := by
  unfold wr; rw [if_pos ht, if_neg (by omega), if_pos (by omega)]

theorem rd_at {l : List Int} {j : Nat} (h : j < l.length) : rd l (j : Int) = l[j] := by simp [rd, List.getD, h]
theorem rd_app {L : List Int} {x : Int} {j : Nat} (h : j < L.length) : rd (L ++ [x]) (j : Int) = rd L (j : Int) := by
  rw [rd_at h, rd_at (show j < (L ++ [x]).length by simp; omega), List.getElem_append_left h]
theorem rd_end {L : List Int} {x : Int} : rd (L ++ [x]) (L.length : Int) = x := by
  rw [rd_at (show L.length < (L ++ [x]).length by simp)]; simp
theorem rows_of {l : Int} {L : List Int} : ∀ (d i : Nat), (∀ j, i ≤ j → j < i + d → rowOk l L j = true) → rowsOk l L d i = true
  | 0, _, _ => rfl
  | d + 1, i, h => by
    simp only [rowsOk, Bool.and_eq_true]
    exact ⟨h i (Nat.le_refl _) (by omega), rows_of d (i + 1) (fun j h1 h2 => h j (by omega) (by omega))⟩
theorem row_iff {l : Int} {L : List Int} {i : Nat} : rowOk l L i = true ↔ -50000 ≤ rd L i ∧ rd L i < l ∧ (i = 0 ∨ rd L ((i : Int) - 1) < rd L i) := by
  unfold rowOk
  simp only [Bool.and_eq_true, Bool.or_eq_true, decide_eq_true_eq]
  exact ⟨fun ⟨⟨a, b⟩, c⟩ => ⟨a, b, c⟩, fun ⟨a, b, c⟩ => ⟨⟨a, b⟩, c⟩⟩
theorem head_iff {b l : Int} {L : List Int} : headOk b l L = true ↔ 0 ≤ b ∧ b ≤ 100 ∧ -50000 ≤ l ∧ l ≤ 50000 ∧ (L.length : Int) ≤ 32 := by
  unfold headOk
  simp only [Bool.and_eq_true, decide_eq_true_eq]
  exact ⟨fun ⟨⟨⟨⟨a, b⟩, c⟩, d⟩, e⟩ => ⟨a, b, c, d, e⟩, fun ⟨a, b, c, d, e⟩ => ⟨⟨⟨⟨a, b⟩, c⟩, d⟩, e⟩⟩
theorem tab_iff {b l : Int} {L : List Int} : tabOk b l L = true ↔ headOk b l L = true ∧ rowsOk l L L.length 0 = true := by
  unfold tabOk; rw [Bool.and_eq_true]
theorem tab_z {b l : Int} {L : List Int} (h : tabOk b l L = true) (hl : l ≤ 49000) : tabOk b (l + 500) L = true := by
  rw [tab_iff, head_iff] at h ⊢
  refine ⟨by omega, rows_of _ _ (fun j h1 h2 => ?_)⟩
  have := row_iff.1 (rows_at _ _ h.2 j h1 h2)
  rw [row_iff]
  exact ⟨this.1, by omega, this.2.2⟩
theorem tab_y {b l : Int} {L : List Int} (h : tabOk b l L = true) (h0 : -50000 < l) (hl : l ≤ 49000) (hn : L.length ≤ 31) (he : 0 < L.length → rd L ((L.length : Int) - 1) ≠ l - 1) : tabOk b (l + 500) (L ++ [l - 1]) = true := by
  have hh := h
  rw [tab_iff, head_iff] at h ⊢
  have hlen : (L ++ [l - 1]).length = L.length + 1 := by simp
  refine ⟨by rw [hlen]; omega, rows_of _ _ (fun j h1 h2 => ?_)⟩
  rw [hlen] at h2
  rw [row_iff]
  by_cases hj : j < L.length
  · have := row_iff.1 (rows_at _ _ h.2 j h1 (by omega))
    rw [rd_app hj]
    refine ⟨this.1, by omega, ?_⟩
    rcases this.2.2 with q | q
    · exact .inl q
    · by_cases hz : j = 0
      · exact .inl hz
      · right
        rw [show (j : Int) - 1 = ((j - 1 : Nat) : Int) by omega] at q ⊢
        rw [rd_app (by omega)]; exact q
  · obtain rfl : j = L.length := by omega
    rw [rd_end]
    refine ⟨by omega, by omega, ?_⟩
    by_cases hz : L.length = 0
    · exact .inl hz
    · right
      have hp : 0 < L.length := by omega
      have hlast := row_iff.1 (rows_at _ _ h.2 (L.length - 1) (by omega) (by omega))
      have hne := he hp
      rw [show (L.length : Int) - 1 = ((L.length - 1 : Nat) : Int) by omega] at hne ⊢
      rw [rd_app (by omega)]
      omega
theorem cnt_app (L : List Int) (x d : Int) : ∀ i, i ≤ L.length → cnt (L ++ [x]) d i = cnt L d i
  | 0, _ => rfl
  | i + 1, h => by
    simp only [cnt]
    rw [cnt_app L x d i (by omega), rd_app (by omega)]
theorem beg_app (b : Int) (L : List Int) (x d : Int) : beg b (L ++ [x]) d = beg b L d + (if x < d then 1 else 0) := by
  unfold beg
  have hlen : (L ++ [x]).length = L.length + 1 := by simp
  rw [hlen]
  simp only [cnt]
  rw [cnt_app L x d L.length (Nat.le_refl _), rd_end]
  split <;> simp <;> omega
theorem utc_more {b l a u0 u1 u2 : Int} {L : List Int} (hy : tabOk b (l + 500) (L ++ [l - 1]) = true) (h : utcR b l L a = (u0, u1, u2, none)) : utcR b (l + 500) (L ++ [l - 1]) a = (u0, u1, u2, none) := by
  have hn := utc_none h
  obtain ⟨ht, h1, h2, h3, h4, h5, h6⟩ := hn
  have hr : ¬ (a ≤ -4611686018427387904 ∨ 4611686018427387904 ≤ a ∨ a / 1000000000 < beg b L (-50000)) ∧ a / 1000000000 < beg b L l := by
    unfold utcR at h
    rw [if_pos ht] at h
    unfold utcC at h
    split at h
    · simp at h
    · next q =>
      split at h
      · simp at h
      · next q2 => exact ⟨q, by omega⟩
  have e0 : beg b (L ++ [l - 1]) u0 = beg b L u0 := by rw [beg_app, if_neg (by omega)]; omega
  have e1 : beg b L (u0 + 1) ≤ beg b (L ++ [l - 1]) (u0 + 1) := by rw [beg_app]; split <;> omega
  have e2 : beg b (L ++ [l - 1]) (-50000) = beg b L (-50000) := by rw [beg_app, if_neg (by omega)]; omega
  have e3 : beg b L l ≤ beg b (L ++ [l - 1]) (l + 500) := by
    rw [beg_app]
    have := beg_mono b L (show l ≤ l + 500 by omega)
    split <;> omega
  have hd := dayOf_uniq hy (s := a / 1000000000) (d := u0) (by omega) (by omega)
  unfold utcR
  rw [if_pos hy]
  unfold utcC
  rw [if_neg (by rw [e2]; exact hr.1), if_neg (by omega), ← hd, e0, ← h3, ← h4]
theorem sure_at : fuseelaw09_sure.f 300 = some true := by decide +kernel
theorem more (b l : Int) (L : List Int) (day a : Int) (ha : R64 a) (hl : R64 l) (hday : R64 day) : ∃ k, fuseelaw09_LeapMore.f k b l L day a = some true := by
  refine ⟨302, ?_⟩
  have hj : fuseelaw09_LeapMore.j0 302 day a true b l L b l L = some true := by
    simp only [fuseelaw09_LeapMore.j0, if_true]
    rw [show fuseelaw09_sure.f 301 = some true from fuseelaw09_sure.mono 300 _ sure_at]; rfl
  have hs300 := sure_at
  unfold fuseelaw09_LeapMore.f
  by_cases c1 : (L.length : Int) > 31
  · rw [if_pos c1]; exact hj
  rw [if_neg c1, check_eq 302 b l L (by omega) (by omega), Option.bind_some]
  by_cases ht : tabOk b l L = true
  case neg => rw [if_neg ht]; exact hj
  rw [if_pos ht]
  rw [if_pos (show (none : Option Int).isNone = true from rfl)]
  by_cases c2 : l ≤ -50000
  · rw [if_pos c2]; exact hj
  rw [if_neg c2]
  have key : (0 < L.length → rd L ((L.length : Int) - 1) ≠ l - 1) → fuseelaw09_LeapMore.j0 302 day a (decide (l > 49000)) b l L b l L = some true := by
    intro he
    by_cases c4 : l > 49000
    · rw [decide_eq_true c4]; exact hj
    rw [decide_eq_false c4]
    have hz := tab_z ht (by omega)
    have hy := tab_y ht (by omega) (by omega) (by omega) he
    have w1 : wrap64 (l - 1) = l - 1 := by unfold wrap64; omega
    have w5 : wrap64 (l + 500) = l + 500 := by unfold wrap64; omega
    have hlen : (L ++ [l - 1]).length = L.length + 1 := by simp
    simp only [fuseelaw09_LeapMore.j0, Bool.false_eq_true, if_false, Option.bind_some, List.nil_append, List.length_nil, List.length_singleton, w1, w5]
    rw [if_pos (by omega), if_pos (by omega), UTC_eq 301 b l L a (by omega) (by omega) ha, Option.bind_some, UTC_eq 301 b (l + 500) (L ++ [l - 1]) a (by omega) (by omega) ha, Option.bind_some]
    have j1 : fuseelaw09_LeapMore.j1 301 day false b l L b (l + 500) (L ++ [l - 1]) b (l + 500) L = some true := by
      simp only [fuseelaw09_LeapMore.j1, Bool.false_eq_true, if_false]
      rw [Begin_eq 300 b (l + 500) (L ++ [l - 1]) day (by omega) (by omega), Option.bind_some, Begin_eq 300 b (l + 500) L day (by omega) (by omega), Option.bind_some]
      have hw : wr b (l + 500) (L ++ [l - 1]) day = wr b (l + 500) L day := by unfold wr; rw [if_pos hy, if_pos hz]
      rw [hw]
      cases hq : wr b (l + 500) L day with
      | none =>
        have hb := wr_none hq
        have hbb := beg_bounds hz day
        simp only [Option.isNone_none, if_true, val]
        rw [beg_app]
        by_cases c5 : day ≥ l
        · rw [if_pos c5, if_pos (show l - 1 < day by omega)]
          refine (if_pos (by unfold wrap64; omega)).trans ?_
          rw [hs300]; rfl
        · rw [if_neg c5, if_neg (show ¬ l - 1 < day by omega)]
          refine (if_pos (by unfold wrap64; omega)).trans ?_
          rw [hs300]; rfl
      | some e =>
        simp only [Option.isNone_some, Bool.false_eq_true, if_false, val]
        refine (if_pos (by unfold wrap64; omega)).trans ?_
        rw [hs300]; rfl
    cases hu : utcR b l L a with
    | mk u0 q =>
      obtain ⟨u1, u2, o⟩ := q
      cases o with
      | none =>
        rw [utc_more hy hu]
        simp only [Option.isNone_none, if_true, beq_self_eq_true, Bool.not_true, Bool.or_false]
        exact j1
      | some e =>
        simp only [Option.isNone_some, Bool.false_eq_true, if_false]
        exact j1
  by_cases c3 : (L.length : Int) > 0
  · rw [if_pos c3]
    have w : wrap64 ((L.length : Int) - 1) = (L.length : Int) - 1 := by unfold wrap64; omega
    have w1 : wrap64 (l - 1) = l - 1 := by unfold R64 at hl; unfold wrap64; omega
    rw [w, w1, if_pos (by omega), if_pos (by omega)]
    by_cases c6 : rd L ((L.length : Int) - 1) = l - 1
    · rw [if_pos c6]; exact hj
    · rw [if_neg c6]; exact key (fun _ => c6)
  · rw [if_neg c3]; exact key (fun h => absurd h (by omega))
theorem done (b l : Int) (L : List Int) (day a : Int) (w0 : (Lit.int .i64 b).wf = true) (w1 : (Lit.int .i64 l).wf = true) (m2 : L.length ≤ maxLen) (w2 : ∀ x ∈ L, (Lit.int .i64 x).wf = true) (w3 : (Lit.int .i64 day).wf = true) (w4 : (Lit.int .i64 a).wf = true) : ∃ k, fuseelaw09_LeapMore.f k b l L day a = some true :=
  more b l L day a (R64.of_wf w4) (R64.of_wf w1) (R64.of_wf w3)
end Go.Proofs.YtnlaiiophongmaaDoor.MLeapMore
