/-
  FloorHolds in plain numbers: whatever times come, what is taken never goes back; margins raise it.
-/
import Derived.Test.YtnlaiiophongmaaDoorK
import Derived.Test.YtnlaiiophongmaaDoorMath
import Derived.Test.YtnlaiiophongmaaDoorMFloorHoldsx
namespace Go.Proofs.YtnlaiiophongmaaDoor.MFloorHolds
open Go.RowKit Go.Proofs.YtnlaiiophongmaaDoorW.PrintWords Go.Proofs.YtnlaiiophongmaaDoorW.PrintMore
set_option linter.unusedVariables false
set_option linter.unusedSimpArgs false

/-- the printed error is the error as a value -/
theorem errW_errV (o : Option Int) : errW o = errV o := by cases o <;> rfl
theorem pSub (a b : Int) (ha : R64 a) (hb : R64 b) : num_Sub.f a b = some (if R64 (a - b) then (a - b, none) else (0, some 2)) := by
  unfold num_Sub.f
  by_cases h : R64 (a - b)
  · rw [if_pos h, h.wrap, if_neg]
    unfold R64 at *
    by_cases h0 : b < 0 <;> simp [h0] <;> omega
  · rw [if_neg h, if_pos]
    unfold R64 at *
    by_cases h0 : b < 0
    · have : ¬ wrap64 (a - b) > a := by unfold wrap64; omega
      simp [h0]; omega
    · have : wrap64 (a - b) > a := by unfold wrap64; omega
      simp [h0]; omega
theorem pAdd (a b : Int) (ha : R64 a) (hb : R64 b) : num_Add.f a b = some (if R64 (a + b) then (a + b, none) else (0, some 2)) := by
  unfold num_Add.f
  by_cases h : R64 (a + b)
  · rw [if_pos h, h.wrap, if_neg]
    unfold R64 at *
    by_cases h0 : b < 0 <;> simp [h0] <;> omega
  · rw [if_neg h, if_pos]
    unfold R64 at *
    by_cases h0 : b < 0
    · have : ¬ wrap64 (a + b) < a := by unfold wrap64; omega
      simp [h0]; omega
    · have : wrap64 (a + b) < a := by unfold wrap64; omega
      simp [h0]; omega
theorem pSubSat (a b : Int) (ha : R64 a) (hb : R64 b) : num_SubSat.f a b = some (sat (a - b)) := by
  unfold num_SubSat.f num_edge.f
  rw [pSub a b ha hb]
  by_cases h : R64 (a - b)
  · rw [if_pos h, sat_of h]; rfl
  · rw [if_neg h]
    unfold R64 at *
    by_cases h0 : b > 0
    · simp [h0]; unfold sat; rw [if_pos (by omega)]
    · simp [h0]; unfold sat; rw [if_neg (by omega), if_pos (by omega)]
theorem pAddSat (a b : Int) (ha : R64 a) (hb : R64 b) : num_AddSat.f a b = some (sat (a + b)) := by
  unfold num_AddSat.f num_edge.f
  rw [pAdd a b ha hb]
  by_cases h : R64 (a + b)
  · rw [if_pos h, sat_of h]; rfl
  · rw [if_neg h]
    unfold R64 at *
    by_cases h0 : b < 0
    · simp [h0]; unfold sat; rw [if_pos (by omega)]
    · simp [h0]; unfold sat; rw [if_neg (by omega), if_pos (by omega)]
theorem pDiv (a b : Int) (ha : R64 a) (hb : R64 b) (h : 1 ≤ b) : num_Div.f a b = some (a / b, a % b, none) := by
  unfold num_Div.f
  have hr0 := Int.emod_nonneg a (show b ≠ 0 by omega)
  have hr1 := Int.emod_lt_of_pos a (show 0 < b by omega)
  have hq := div_bounds ha h
  have ht := (tdiv_range ha h).wrap
  rw [if_neg (by omega), if_neg (by omega), ht]
  rcases Int.lt_or_le a 0 with h0 | h0
  · have e1 := tdiv_neg h0 h
    have e2 := tmod_neg h0 h
    by_cases hz : a % b = 0
    · rw [if_pos hz] at e1 e2
      rw [if_neg (by omega), e1, e2]; simp
    · rw [if_neg hz] at e1 e2
      rw [if_pos (by omega), e1, e2, R64.wrap (by simpa using hq.1), R64.wrap (by unfold R64 at *; omega)]; simp
  · rw [Int.tmod_eq_emod_of_nonneg h0, tdiv_of_nonneg h0, if_neg (by omega)]
theorem pDivBad (a b : Int) (h : b < 1) : num_Div.f a b = some (0, 0, some 1) := by unfold num_Div.f; rw [if_pos h]
theorem pCeil (a b : Int) (ha : R64 a) (hb : R64 b) (h : 1 ≤ b) : num_Ceil.f a b = some (ceilD a b, none) := by
  unfold num_Ceil.f
  rw [pDiv a b ha hb h]
  have hr := ceil_range ha h
  unfold ceilD at *
  by_cases hz : 0 < a % b
  · rw [if_pos hz] at *; simp [hz, hr.wrap]
  · rw [if_neg hz] at *; simp [hz]
theorem pMul (k : Nat) (a b : Int) (ha : R64 a) (hb : R64 b) : num_Mul.f (k + 1) a b = some (if R64 (a * b) then (a * b, none) else (0, some 2)) := by
  unfold num_Mul.f
  by_cases ha0 : a = 0
  · rw [if_pos ha0, ha0, Int.zero_mul, if_pos (by unfold R64; omega)]; simp [num_Mul.j0]
  rw [if_neg ha0]
  by_cases hb0 : b = 0
  · rw [hb0, Int.mul_zero, if_pos (by unfold R64; omega)]; simp [num_Mul.j0]
  have hz : (b == 0) = false := beq_eq_false_iff_ne.mpr hb0
  rw [hz]
  simp only [num_Mul.j0]
  rw [if_neg (show ¬ (false = true) by decide)]
  by_cases hr : R64 (a * b)
  · have q1 : ¬ (a = -1 ∧ b = -9223372036854775808) := by intro ⟨h1, h2⟩; rw [h1, h2] at hr; revert hr; decide +kernel
    have q2 : ¬ (b = -1 ∧ a = -9223372036854775808) := by intro ⟨h1, h2⟩; rw [h1, h2] at hr; revert hr; decide +kernel
    have e2 : wrap64 (Int.tdiv (a * b) b) = a := by rw [Int.mul_tdiv_cancel a hb0]; exact ha.wrap
    rw [if_pos hr, hr.wrap]
    by_cases y1 : a = -1
    · have x2 : ¬ b = -9223372036854775808 := fun h => q1 ⟨y1, h⟩
      by_cases y3 : b = -1
      · have x4 : ¬ a = -9223372036854775808 := fun h => q2 ⟨y3, h⟩
        rw [if_pos y1, if_neg x2, if_pos y3, if_neg x4, if_neg hb0, if_pos e2]
      · rw [if_pos y1, if_neg x2, if_neg y3, if_neg hb0, if_pos e2]
    · by_cases y3 : b = -1
      · have x4 : ¬ a = -9223372036854775808 := fun h => q2 ⟨y3, h⟩
        rw [if_neg y1, if_pos y3, if_neg x4, if_neg hb0, if_pos e2]
      · rw [if_neg y1, if_neg y3, if_neg hb0, if_pos e2]
  · rw [if_neg hr]
    by_cases s1 : b = -1 ∧ a = -9223372036854775808
    · obtain ⟨h1, h2⟩ := s1
      subst h1 h2
      decide +kernel
    · have e5 := mul_seen ha hb hb0 s1 hr
      rw [if_neg hb0, if_neg e5]
      simp
theorem pQCheck (q : Int) : quant_Check.f q = some (if okQ q then none else some 1) := by
  unfold quant_Check.f
  by_cases h : q < 1
  · rw [if_pos h, if_neg (by unfold okQ; omega)]
  · rw [if_neg h]
    by_cases h2 : q > 68719476736
    · rw [if_pos h2, if_neg (by unfold okQ; omega)]
    · rw [if_neg h2, if_pos (by unfold okQ; omega)]
/-- the least multiple that is not below, or the error -/
def upR (t q : Int) : Int × Option Int := if okQ q then (if R64 (ceilD t q * q) then (ceilD t q * q, none) else (0, some 2)) else (0, some 1)
theorem pUp (k : Nat) (t q : Int) (ht : R64 t) (hq : R64 q) : quant_Up.f (k + 1) t q = some (upR t q) := by
  unfold quant_Up.f upR
  rw [pQCheck q]
  by_cases h : okQ q
  · rw [if_pos h, if_pos h]
    simp only [Option.bind_some, Option.isNone_none, if_true]
    rw [pCeil t q ht hq h.1]
    simp only [Option.bind_some, Option.isNone_none, if_true]
    rw [pMul k _ _ (ceil_range ht h.1) hq]
    split <;> simp
  · rw [if_neg h, if_neg h]; simp

theorem mx_eq (a b : Int) : mx a b = max a b := by unfold mx; omega
/-- a floor raised -/
def raiseR (s : Bool) (a t : Int) : Int := if s = true then max t a else t
theorem raise_eq (s : Bool) (a t : Int) : floor_Raise.f s a t = some (true, raiseR s a t) := by
  unfold floor_Raise.f raiseR; cases s <;> simp [mx_eq]
theorem take_eq (s : Bool) (a t : Int) (ha : R64 a) (ht : R64 t) : floor_Take.f s a t = some (raiseR s a t, sat (raiseR s a t - t), true, raiseR s a t) := by
  unfold floor_Take.f
  rw [raise_eq]
  simp only [Option.bind_some]
  rw [pSubSat _ t (by unfold raiseR; split; · (unfold R64 at *; omega)
                      · exact ht) ht]
  simp
/-- a floor with a margin -/
def marginR (s : Bool) (a by_ q : Int) : Bool × Int × Option Int :=
  if 0 ≤ by_ ∧ okQ q then (if s = true then (match upR (sat (a + by_)) q with | (u, none) => (true, u, none) | (_, some c) => (false, 0, some c)) else (false, a, none)) else (false, 0, some 1)
theorem margin_eq (k : Nat) (s : Bool) (a b q : Int) (ha : R64 a) (hb : R64 b) (hq : R64 q) : floor_Margin.f (k + 2) s a b q = some (marginR s a b q) := by
  unfold floor_Margin.f marginR
  by_cases h0 : b < 0
  · rw [if_pos h0, if_neg (by omega)]; simp [floor_Margin.j0]
  rw [if_neg h0, pQCheck]
  by_cases h : okQ q
  · rw [if_pos h, if_pos ⟨by omega, h⟩]
    simp only [Option.bind_some, Option.isNone_none, if_true]
    simp only [floor_Margin.j0]
    rw [if_neg (by simp)]
    cases s
    · simp
    · simp only [if_true]
      rw [pAddSat a b ha hb]
      simp only [Option.bind_some]
      rw [pUp k _ q (sat_range _) hq]
      rcases upR (sat (a + b)) q with ⟨u, _ | c⟩ <;> simp
  · rw [if_neg h, if_neg (fun x => h x.2)]; simp [floor_Margin.j0]

theorem rd_mem {l : List Int} {i : Int} (h0 : 0 ≤ i) (h : i < l.length) : rd l i ∈ l := by
  unfold rd
  have hn : i.toNat < l.length := by omega
  simp only [List.getD_eq_getElem?_getD, List.getElem?_eq_getElem hn, Option.getD_some]
  exact List.getElem_mem hn
/-- what the margin of the law comes to -/
theorem margin_ok (s : Bool) (a by_ : Int) (h0 : 0 ≤ by_) (h1 : by_ ≤ 65535) (ha : s = true → -2305843009213693952 ≤ a ∧ a ≤ 2305843010213693952) :
    ∃ u, marginR s a by_ (1 + by_ % 50) = (s, u, none) ∧ a ≤ u ∧ u ≤ a + 70000 := by
  have q0 := Int.emod_nonneg by_ (show (50 : Int) ≠ 0 by omega)
  have q1 := Int.emod_lt_of_pos by_ (show (0 : Int) < 50 by omega)
  generalize by_ % 50 = q at *
  have hq : okQ (1 + q) := by unfold okQ; omega
  unfold marginR
  rw [if_pos ⟨h0, hq⟩]
  cases s
  · exact ⟨a, by simp, by omega, by omega⟩
  · have hA := ha rfl
    simp only [if_true]
    rw [sat_of (by unfold R64; omega)]
    have e := ceil_mul_eq (a + by_) (1 + q) (by omega)
    have r0 := Int.emod_nonneg (a + by_) (show 1 + q ≠ 0 by omega)
    have r1 := Int.emod_lt_of_pos (a + by_) (show 0 < 1 + q by omega)
    have hu : R64 (ceilD (a + by_) (1 + q) * (1 + q)) ∧ a + by_ ≤ ceilD (a + by_) (1 + q) * (1 + q) ∧ ceilD (a + by_) (1 + q) * (1 + q) ≤ a + by_ + 50 := by
      rw [e]; unfold R64; split <;> omega
    unfold upR
    rw [if_pos hq, if_pos hu.1]
    exact ⟨_, rfl, by omega, by omega⟩
theorem sure_ok (k : Nat) : fuseelaw26_sure.f (k + 2) = some true := by
  unfold fuseelaw26_sure.f
  rw [take_eq false 0 5 (by unfold R64; omega) (by unfold R64; omega)]
  simp only [Option.bind_some]
  rw [take_eq _ _ 3 (by decide +kernel) (by unfold R64; omega)]
  simp only [Option.bind_some]
  rw [margin_eq k _ _ 4 10 (by decide +kernel) (by unfold R64; omega) (by unfold R64; omega)]
  simp only [Option.bind_some]
  rw [margin_eq k _ _ (-1) 10 (by decide +kernel) (by unfold R64; omega) (by unfold R64; omega)]
  decide +kernel
theorem tdiv4 {t : Int} (h : R64 t) : wrap64 (Int.tdiv t 4) = Int.tdiv t 4 ∧ -2305843009213693952 ≤ Int.tdiv t 4 ∧ Int.tdiv t 4 ≤ 2305843009213693951 := by
  have h1 : -2305843009213693952 ≤ Int.tdiv t 4 ∧ Int.tdiv t 4 ≤ 2305843009213693951 := by
    unfold R64 at h
    rcases Int.lt_or_le t 0 with h0 | h0
    · have := tdiv_neg h0 (show (1 : Int) ≤ 4 by omega)
      split at this <;> omega
    · rw [tdiv_of_nonneg h0]; omega
  exact ⟨R64.wrap (by unfold R64; omega), h1⟩
theorem loop (l b : List Int) (hl : ∀ x ∈ l, R64 x) (hb : ∀ x ∈ b, 0 ≤ x ∧ x ≤ 65535) : ∀ (d k : Nat) (last : Int) (any : Bool) (i : Int) (s : Bool) (a : Int),
    0 ≤ i → 60 - i ≤ d → 4 * d + 8 ≤ k → (any = true → s = true ∧ last ≤ a) → (-2305843009213693952 ≤ a ∧ a ≤ 2305843009213693952 + 100000 * i) →
    fuseelaw26_FloorHolds.l0 k l b last any i s a = some true := by
  have hend : ∀ (k : Nat) (last : Int) (any : Bool) (i : Int) (s : Bool) (a : Int), 4 ≤ k → fuseelaw26_FloorHolds.j1 k l b last any i false s a = some true := by
    intro k last any i s a hk
    obtain ⟨k, rfl⟩ : ∃ m, k = m + 3 := ⟨k - 3, by omega⟩
    simp only [fuseelaw26_FloorHolds.j1]
    rw [if_neg (by simp), sure_ok k]; rfl
  intro d
  induction d with
  | zero =>
    intro k last any i s a h0 hd hk h1 h3
    obtain ⟨k, rfl⟩ : ∃ m, k = m + 1 := ⟨k - 1, by omega⟩
    simp only [fuseelaw26_FloorHolds.l0]
    rw [show decide (i < 60) = false from decide_eq_false (by omega)]
    split <;> exact hend k last any i s a (by omega)
  | succ d ih =>
    intro k last any i s a h0 hd hk h1 h3
    obtain ⟨k, rfl⟩ : ∃ m, k = m + 8 := ⟨k - 8, by omega⟩
    simp only [fuseelaw26_FloorHolds.l0]
    by_cases hin : i < (l.length : Int)
    · rw [if_pos hin]
      by_cases h60 : i < 60
      · rw [decide_eq_true h60]
        simp only [fuseelaw26_FloorHolds.j1, if_true]
        rw [if_pos h0, if_pos hin]
        have ht := hl _ (rd_mem h0 hin)
        generalize rd l i = t at ht
        obtain ⟨e1, e2, e3⟩ := tdiv4 ht
        rw [e1]
        generalize Int.tdiv t 4 = u at e2 e3
        have hu : R64 u := by unfold R64; omega
        have wi : wrap64 (i + 1) = i + 1 := R64.wrap (by unfold R64; omega)
        -- behind the margin
        have key : ∀ a', (any = true → s = true ∧ last ≤ a') → (-2305843009213693952 ≤ a' ∧ a' ≤ 2305843009213693952 + 100000 * i + 70000) →
            ∃ v, floor_Take.f s a' u = some (v, sat (v - u), true, v) ∧ ¬ v < u ∧ wrap64 (v - u) = sat (v - u) ∧ (any = true → ¬ v < last) ∧ (s = false → v = u) ∧ R64 v ∧ -2305843009213693952 ≤ v ∧ v ≤ 2305843009213693952 + 100000 * (i + 1) := by
          intro a' g2 g3
          have g1 : R64 a' := by unfold R64; omega
          refine ⟨raiseR s a' u, take_eq s a' u g1 hu, ?_⟩
          have c : (s = true ∧ raiseR s a' u = max u a') ∨ (s = false ∧ raiseR s a' u = u) := by cases s <;> simp [raiseR]
          rcases c with ⟨c1, c2⟩ | ⟨c1, c2⟩
          · rw [c2]
            have hr : R64 (max u a' - u) := by unfold R64 at *; omega
            refine ⟨by omega, by rw [hr.wrap, sat_of hr], fun ha => by have := (g2 ha).2; omega, fun h => (by rw [c1] at h; cases h), by unfold R64 at *; omega, by omega, by omega⟩
          · rw [c2]
            refine ⟨by omega, by rw [Int.sub_self, R64.wrap (by unfold R64; omega), sat_of (by unfold R64; omega)], fun ha => ?_, fun _ => rfl, hu, by omega, by omega⟩
            have := (g2 ha).1; rw [c1] at this; cases this
        have fin : ∀ v, R64 v → -2305843009213693952 ≤ v → v ≤ 2305843009213693952 + 100000 * (i + 1) → ∀ k', 4 * d + 8 ≤ k' → fuseelaw26_FloorHolds.l0 k' l b v true (i + 1) true v = some true :=
          fun v g1 g2 g3 k' hk' => ih k' v true (i + 1) true v (by omega) (by omega) hk' (fun _ => ⟨rfl, Int.le_refl _⟩) ⟨g2, g3⟩
        have plain : ∀ k', 4 * d + 9 ≤ k' → fuseelaw26_FloorHolds.j2 k' l b last any i u false s a = some true := by
          intro k' hk'
          obtain ⟨k', rfl⟩ : ∃ m, k' = m + 1 := ⟨k' - 1, by omega⟩
          simp only [fuseelaw26_FloorHolds.j2]
          rw [if_neg (by simp)]
          obtain ⟨v, g1, g2, g3, g4, g5, g6, g7, g8⟩ := key a h1 (by omega)
          rw [g1]
          simp only [Option.bind_some]
          rw [if_neg g2, if_pos g3, wi, fin v g6 g7 g8 k' (by omega)]
          cases any
          · cases s
            · simp [g5 rfl]
            · simp
          · rw [if_neg (g4 rfl), (h1 rfl).1]; simp
        by_cases hbi : i < (b.length : Int)
        · rw [if_pos hbi]
          have hby := hb _ (rd_mem h0 hbi)
          cases hm : ((Int.tmod (rd b i) 3) == 0)
          · exact plain _ (by omega)
          · simp only [fuseelaw26_FloorHolds.j2, if_true]
            rw [if_pos h0, if_pos hbi]
            generalize rd b i = y at hby hm
            rw [Int.tmod_eq_emod_of_nonneg hby.1, R64.wrap (a := y) (by unfold R64; omega), R64.wrap (a := y % 50) (by unfold R64; omega), R64.wrap (by unfold R64; omega)]
            obtain ⟨m, m1, m2, m3⟩ := margin_ok s a y hby.1 hby.2 (fun h => by omega)
            rw [margin_eq _ s a y _ (by unfold R64; omega) (by unfold R64; omega) (by unfold R64; omega), m1]
            simp only [Option.bind_some, Option.isNone_none, if_true]
            have hs0 : (s != s) = false := by cases s <;> rfl
            rw [hs0, if_neg (by simp), show decide (m < a) = false from decide_eq_false (by omega)]
            simp only [fuseelaw26_FloorHolds.j3]
            rw [if_neg (by simp)]
            obtain ⟨v, g1, g2, g3, g4, g5, g6, g7, g8⟩ := key m (fun h => by have := h1 h; exact ⟨this.1, by omega⟩) (by omega)
            rw [g1]
            simp only [Option.bind_some]
            rw [if_neg g2, if_pos g3, wi, fin v g6 g7 g8 _ (by omega)]
            cases any
            · cases s
              · simp [g5 rfl]
              · simp
            · rw [if_neg (g4 rfl), (h1 rfl).1]; simp
        · rw [if_neg hbi]
          exact plain _ (by omega)
      · rw [decide_eq_false h60]; exact hend _ last any i s a (by omega)
    · rw [if_neg hin]; exact hend _ last any i s a (by omega)
theorem FloorHolds (l b : List Int) (hl : ∀ x ∈ l, R64 x) (hb : ∀ x ∈ b, 0 ≤ x ∧ x ≤ 65535) : fuseelaw26_FloorHolds.f 300 l b = some true := by
  unfold fuseelaw26_FloorHolds.f
  exact loop l b hl hb 60 300 0 false 0 false 0 (by omega) (by omega) (by omega) (fun h => by cases h) (by omega)
theorem done (l b : List Int) (hm0 : l.length ≤ maxLen) (wl0 : ∀ x ∈ l, (Lit.int .i64 x).wf = true) (hm1 : b.length ≤ maxLen) (wl1 : ∀ x ∈ b, (Lit.int .u16 x).wf = true) : ∃ k, fuseelaw26_FloorHolds.f k l b = some true :=
  ⟨300, FloorHolds l b (fun x h => R64.of_wf (wl0 x h)) (fun x h => bounds_u16 (wl1 x h))⟩
end Go.Proofs.YtnlaiiophongmaaDoor.MFloorHolds
