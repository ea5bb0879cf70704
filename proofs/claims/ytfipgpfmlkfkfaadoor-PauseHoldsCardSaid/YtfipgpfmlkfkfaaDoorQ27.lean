/-
  PauseHolds in plain numbers: while it stands still it is what it was; it never goes back.
-/
import Derived.Test.YtfipgpfmlkfkfaaDoorK
import Derived.Test.YtfipgpfmlkfkfaaDoorMath
import Derived.Test.YtfipgpfmlkfkfaaDoorMPauseHoldsx
namespace Go.Proofs.YtfipgpfmlkfkfaaDoor.MPauseHolds
open Go.RowKit Go.Proofs.YtfipgpfmlkfkfaaDoorW.PrintWords Go.Proofs.YtfipgpfmlkfkfaaDoorW.PrintMore
set_option linter.unusedVariables false
set_option linter.unusedSimpArgs false

/-- the printed error is the error as a value -/
theorem errW_errV (o : Option Int) : errW o = errV o := by cases o <;> rfl
theorem pSub (a b : Int) (ha : R64 a) (hb : R64 b) : num_Sub.f a b = some (if R64 (a - b) then (a - b, none) else (0, some 2)) := by
  unfold num_Sub.f
  by_cases h : R64 (a - b)
  · rw [if_pos h, h.wrap, if_neg]
    unfold R64 at *
    by_cases h0 : b < 0 <;> simp [h0] <;> omega
  · rw [if_neg h, if_pos]
    unfold R64 at *
    by_cases h0 : b < 0
    · have : ¬ wrap64 (a - b) > a := by unfold wrap64; omega
      simp [h0]; omega
    · have : wrap64 (a - b) > a := by unfold wrap64; omega
      simp [h0]; omega
theorem pAdd (a b : Int) (ha : R64 a) (hb : R64 b) : num_Add.f a b = some (if R64 (a + b) then (a + b, none) else (0, some 2)) := by
  unfold num_Add.f
  by_cases h : R64 (a + b)
  · rw [if_pos h, h.wrap, if_neg]
    unfold R64 at *
    by_cases h0 : b < 0 <;> simp [h0] <;> omega
  · rw [if_neg h, if_pos]
    unfold R64 at *
    by_cases h0 : b < 0
    · have : ¬ wrap64 (a + b) < a := by unfold wrap64; omega
      simp [h0]; omega
    · have : wrap64 (a + b) < a := by unfold wrap64; omega
      simp [h0]; omega
theorem pSubSat (a b : Int) (ha : R64 a) (hb : R64 b) : num_SubSat.f a b = some (sat (a - b)) := by
  unfold num_SubSat.f num_edge.f
  rw [pSub a b ha hb]
  by_cases h : R64 (a - b)
  · rw [if_pos h, sat_of h]; rfl
  · rw [if_neg h]
    unfold R64 at *
    by_cases h0 : b > 0
    · simp [h0]; unfold sat; rw [if_pos (by omega)]
    · simp [h0]; unfold sat; rw [if_neg (by omega), if_pos (by omega)]
theorem pAddSat (a b : Int) (ha : R64 a) (hb : R64 b) : num_AddSat.f a b = some (sat (a + b)) := by
  unfold num_AddSat.f num_edge.f
  rw [pAdd a b ha hb]
  by_cases h : R64 (a + b)
  · rw [if_pos h, sat_of h]; rfl
  · rw [if_neg h]
    unfold R64 at *
    by_cases h0 : b < 0
    · simp [h0]; unfold sat; rw [if_pos (by omega)]
    · simp [h0]; unfold sat; rw [if_neg (by omega), if_pos (by omega)]
theorem pSize (a : Int) (ha : R64 a) : num_Size.f a = some (if a < 0 then sat (-a) else a) := by
  unfold num_Size.f
  by_cases h : a < 0
  · rw [if_pos h, if_pos h, pSubSat 0 a (by unfold R64; omega) ha, Int.zero_sub]; rfl
  · rw [if_neg h, if_neg h]

/-- a time that may be -/
def tB (t : Int) : Bool := decide (-4611686018427387904 < t ∧ t < 4611686018427387904)
/-- a pause that may be -/
def okB (p0 : Bool) (p1 p2 : Int) : Bool := tB p1 && (p0 || decide (p1 = 0)) && decide (0 ≤ p2 ∧ p2 ≤ 2305843009213693952)
theorem time_eq (t : Int) (h : R64 t) : pause_time.f t = some (tB t) := by
  unfold pause_time.f
  rw [pSize t h]
  simp only [Option.bind_some, Option.some.injEq, tB, decide_eq_decide]
  unfold R64 at h
  split
  · unfold sat; split <;> (try split) <;> omega
  · omega
theorem check_eq (p0 : Bool) (p1 p2 : Int) (h1 : R64 p1) : pause_Check.f p0 p1 p2 = some (if okB p0 p1 p2 = true then none else some 1) := by
  unfold pause_Check.f okB
  rw [time_eq p1 h1]
  simp only [Option.bind_some]
  cases tB p1 <;> cases p0 <;> simp
  · by_cases h : p1 = 0 <;> by_cases h2 : p2 < 0 <;> by_cases h3 : p2 > 2305843009213693952 <;> simp [h, h2, h3] <;> omega
  · by_cases h2 : p2 < 0 <;> by_cases h3 : p2 > 2305843009213693952 <;> simp [h2, h3] <;> omega
theorem may_eq (p0 : Bool) (p1 p2 t : Int) (h1 : R64 p1) (ht : R64 t) : pause_may.f p0 p1 p2 t = some (if okB p0 p1 p2 && tB t then none else some 1) := by
  unfold pause_may.f
  rw [time_eq t ht, check_eq p0 p1 p2 h1]
  cases tB t <;> cases okB p0 p1 p2 <;> simp
/-- what stopping comes to -/
def stopR (p0 : Bool) (p1 p2 t : Int) : Bool × Int × Int × Option Int :=
  if okB p0 p1 p2 && tB t then (if p0 = true then (false, 0, 0, some 19) else (true, t, p2, none)) else (false, 0, 0, some 1)
theorem stop_eq (p0 : Bool) (p1 p2 t : Int) (h1 : R64 p1) (ht : R64 t) : pause_Stop.f p0 p1 p2 t = some (stopR p0 p1 p2 t) := by
  unfold pause_Stop.f stopR
  rw [may_eq p0 p1 p2 t h1 ht]
  cases tB t <;> cases okB p0 p1 p2 <;> cases p0 <;> simp
/-- what going on comes to -/
def goR (p0 : Bool) (p1 p2 t : Int) (j : Bool) : Bool × Int × Int × Option Int :=
  if okB p0 p1 p2 && tB t then (if p0 = true then (if t < p1 then (false, 0, 0, some 10) else if j = true then (false, 0, p2, none) else if p2 + (t - p1) > 2305843009213693952 then (false, 0, 0, some 2) else (false, 0, p2 + (t - p1), none)) else (false, 0, 0, some 19)) else (false, 0, 0, some 1)
theorem okB_of {p0 : Bool} {p1 p2 : Int} (h : okB p0 p1 p2 = true) : (-4611686018427387904 < p1 ∧ p1 < 4611686018427387904) ∧ (0 ≤ p2 ∧ p2 ≤ 2305843009213693952) := by
  unfold okB tB at h; simp at h; omega
theorem tB_of {t : Int} (h : tB t = true) : -4611686018427387904 < t ∧ t < 4611686018427387904 := by unfold tB at h; simpa using h
theorem go_eq (p0 : Bool) (p1 p2 t : Int) (j : Bool) (h1 : R64 p1) (ht : R64 t) : pause_Go.f p0 p1 p2 t j = some (goR p0 p1 p2 t j) := by
  unfold pause_Go.f goR
  rw [may_eq p0 p1 p2 t h1 ht]
  cases hT : tB t <;> cases hO : okB p0 p1 p2 <;> cases p0 <;> simp
  have a1 := okB_of hO
  have a2 := tB_of hT
  by_cases hlt : t < p1
  · simp [hlt]
  · have r1 : R64 (t - p1) := by unfold R64; omega
    have r2 : R64 p2 := by unfold R64; omega
    rw [pSubSat t p1 ht h1, sat_of r1]
    simp only [Option.bind_some]
    rw [pAddSat p2 (t - p1) r2 r1]
    cases j
    · by_cases h3 : p2 + (t - p1) > 2305843009213693952
      · have h4 : sat (p2 + (t - p1)) > 2305843009213693952 := by
          rcases sat_cases (p2 + (t - p1)) with ⟨h, hs⟩ | ⟨h, hs⟩ | ⟨h, hs⟩ <;> omega
        simp [hlt, h3, h4]
      · rw [sat_of (by unfold R64; omega)]
        simp [hlt, h3]
    · have : ¬ p2 > 2305843009213693952 := by omega
      simp [hlt, this]
/-- what the view comes to -/
def viewR (p0 : Bool) (p1 p2 t : Int) : Int × Option Int :=
  if okB p0 p1 p2 && tB t then (if tB ((if p0 = true then p1 else t) - p2) = true then ((if p0 = true then p1 else t) - p2, none) else (0, some 2)) else (0, some 1)
theorem view_eq (k : Nat) (p0 : Bool) (p1 p2 t : Int) (h1 : R64 p1) (ht : R64 t) : pause_View.f (k + 1) p0 p1 p2 t = some (viewR p0 p1 p2 t) := by
  unfold pause_View.f viewR
  rw [may_eq p0 p1 p2 t h1 ht]
  cases hT : tB t <;> cases hO : okB p0 p1 p2 <;> cases p0 <;> simp [pause_View.j0]
  all_goals
    have a1 := okB_of hO
    have a2 := tB_of hT
    rw [pSubSat _ p2 (by assumption) (by unfold R64; omega), sat_of (by unfold R64; omega)]
    simp only [Option.bind_some]
    rw [time_eq _ (by unfold R64; omega)]
    simp only [Option.bind_some]
    split <;> simp_all

theorem sure_at (k : Nat) (hk : 5 ≤ k) : fuseelaw27_sure.f k = some true :=
  at_rounds (g := fuseelaw27_sure.f) (fun k => fuseelaw27_sure.mono k) hk (by decide +kernel)
theorem view_at (k : Nat) (hk : 1 ≤ k) (p0 : Bool) (p1 p2 t : Int) (h1 : R64 p1) (ht : R64 t) : pause_View.f k p0 p1 p2 t = some (viewR p0 p1 p2 t) := by
  obtain ⟨k, rfl⟩ : ∃ m, k = m + 1 := ⟨k - 1, by omega⟩
  exact view_eq k p0 p1 p2 t h1 ht
theorem okB_mk {p0 : Bool} {p1 p2 : Int} (h1 : 0 ≤ p1 ∧ p1 ≤ 4000000) (h0 : p0 = false → p1 = 0) (h2 : 0 ≤ p2 ∧ p2 ≤ 4000000) : okB p0 p1 p2 = true := by
  unfold okB tB; cases p0
  · simp [h0 rfl]; omega
  · simp; omega
theorem tB_mk {t : Int} (h : -4000000 ≤ t ∧ t ≤ 4000000) : tB t = true := by unfold tB; simp; omega
theorem view_ok {p0 : Bool} {p1 p2 t : Int} (h1 : 0 ≤ p1 ∧ p1 ≤ 4000000) (h0 : p0 = false → p1 = 0) (h2 : 0 ≤ p2 ∧ p2 ≤ 4000000) (ht : 0 ≤ t ∧ t ≤ 4000000) : viewR p0 p1 p2 t = ((if p0 = true then p1 else t) - p2, none) := by
  unfold viewR
  rw [okB_mk h1 h0 h2, tB_mk (by omega)]
  rw [tB_mk (show -4000000 ≤ (if p0 = true then p1 else t) - p2 ∧ (if p0 = true then p1 else t) - p2 ≤ 4000000 by split <;> omega)]
  simp
theorem rd_mem {l : List S96} {i : Int} (h0 : 0 ≤ i) (h : i < l.length) : rd_T96 l i ∈ l := by
  unfold rd_T96
  have hn : i.toNat < l.length := by omega
  simp only [List.getD_eq_getElem?_getD, List.getElem?_eq_getElem hn, Option.getD_some]
  exact List.getElem_mem hn
theorem loop (l : List S96) (hl : ∀ x ∈ l, (0 ≤ x.f0 ∧ x.f0 ≤ 65535) ∧ (0 ≤ x.f1 ∧ x.f1 ≤ 65535)) : ∀ (d k : Nat) (now last i : Int) (p0 : Bool) (p1 p2 : Int),
    0 ≤ i → 60 - i ≤ d → 4 * d + 12 ≤ k → (0 ≤ now ∧ now ≤ 65535 * i) → (0 ≤ p1 ∧ p1 ≤ now) → (p0 = false → p1 = 0) → (0 ≤ p2 ∧ p2 ≤ now) → last = (if p0 = true then p1 else now) - p2 → (p0 = true → p2 ≤ p1) →
    fuseelaw27_PauseHolds.l0 k l now last i p0 p1 p2 = some true := by
  have hend : ∀ (k : Nat) (now last i : Int) (p0 : Bool) (p1 p2 : Int), 6 ≤ k → fuseelaw27_PauseHolds.j1 k l now last i false p0 p1 p2 = some true := by
    intro k now last i p0 p1 p2 hk
    obtain ⟨k, rfl⟩ : ∃ m, k = m + 1 := ⟨k - 1, by omega⟩
    simp only [fuseelaw27_PauseHolds.j1]
    rw [if_neg (by simp), sure_at k (by omega)]; rfl
  intro d
  induction d with
  | zero =>
    intro k now last i p0 p1 p2 h0 hd hk n0 a0 a1 a2 a3 a4
    obtain ⟨k, rfl⟩ : ∃ m, k = m + 1 := ⟨k - 1, by omega⟩
    simp only [fuseelaw27_PauseHolds.l0]
    rw [show decide (i < 60) = false from decide_eq_false (by omega)]
    split <;> exact hend k _ _ _ _ _ _ (by omega)
  | succ d ih =>
    intro k now last i p0 p1 p2 h0 hd hk n0 a0 a1 a2 a3 a4
    obtain ⟨k, rfl⟩ : ∃ m, k = m + 4 := ⟨k - 4, by omega⟩
    simp only [fuseelaw27_PauseHolds.l0]
    by_cases hin : i < (l.length : Int)
    · rw [if_pos hin]
      by_cases h60 : i < 60
      · rw [decide_eq_true h60]
        simp only [fuseelaw27_PauseHolds.j1, if_true]
        rw [if_pos h0, if_pos hin]
        have hx := hl _ (rd_mem h0 hin)
        have wi : wrap64 (i + 1) = i + 1 := R64.wrap (by unfold R64; omega)
        have w0 : wrap64 (rd_T96 l i).f0 = (rd_T96 l i).f0 := R64.wrap (by unfold R64; omega)
        have w1 : wrap64 (now + (rd_T96 l i).f0) = now + (rd_T96 l i).f0 := R64.wrap (by unfold R64; omega)
        rw [w0, w1]
        have em : Int.tmod (rd_T96 l i).f1 3 = (rd_T96 l i).f1 % 3 := Int.tmod_eq_emod_of_nonneg hx.2.1
        obtain ⟨now', en⟩ : ∃ n, n = now + (rd_T96 l i).f0 := ⟨_, rfl⟩
        rw [← en]
        have nb : now ≤ now' ∧ now' ≤ now + 65535 := by omega
        rw [view_at _ (by omega) p0 p1 p2 now' (by unfold R64; omega) (by unfold R64; omega), view_ok (by omega) a1 (by omega) (by omega)]
        simp only [Option.bind_some, Option.isNone_none, if_true]
        obtain ⟨v, ev⟩ : ∃ v, v = (if p0 = true then p1 else now') - p2 := ⟨_, rfl⟩
        rw [← ev]
        have key : fuseelaw27_PauseHolds.j2 (k + 2) l now' i p0 v false p0 p1 p2 = some true := by
          simp only [fuseelaw27_PauseHolds.j2]
          rw [if_neg (by simp), if_pos h0, if_pos hin, em, wi]
          by_cases m0 : (rd_T96 l i).f1 % 3 = 0
          · rw [if_pos m0]
            exact ih (k + 1) now' v (i + 1) p0 p1 p2 (by omega) (by omega) (by omega) (by omega) (by omega) a1 (by omega) ev a4
          · rw [if_neg m0]
            cases p0 with
            | true =>
              have a5 := a4 rfl
              simp only [if_true] at ev a3 ⊢
              rw [go_eq true p1 p2 now' _ (by unfold R64; omega) (by unfold R64; omega)]
              unfold goR
              rw [okB_mk (by omega) (fun h => by cases h) (by omega), tB_mk (by omega)]
              simp only [Bool.and_self, if_true]
              rw [if_neg (by omega)]
              by_cases m2 : (rd_T96 l i).f1 % 3 = 2
              · rw [m2]
                simp only [BEq.rfl, if_true, Option.bind_some, Option.isNone_none]
                rw [view_at _ (by omega) false 0 p2 now' (by unfold R64; omega) (by unfold R64; omega), view_ok (by omega) (fun _ => rfl) (by omega) (by omega)]
                simp only [Option.bind_some, Option.isNone_none, if_true, Bool.false_eq_true, if_false]
                rw [if_neg (by omega)]
                exact ih (k + 1) now' _ (i + 1) false 0 p2 (by omega) (by omega) (by omega) (by omega) (by omega) (fun _ => rfl) (by omega) (by simp) (fun h => by cases h)
              · have hb2 : ((rd_T96 l i).f1 % 3 == 2) = false := beq_eq_false_iff_ne.mpr m2
                rw [hb2]
                simp only [Bool.false_eq_true, if_false]
                rw [if_neg (by omega)]
                simp only [Option.bind_some, Option.isNone_none, if_true, Bool.false_eq_true, if_false]
                rw [view_at _ (by omega) false 0 (p2 + (now' - p1)) now' (by unfold R64; omega) (by unfold R64; omega), view_ok (by omega) (fun _ => rfl) (by omega) (by omega)]
                simp only [Option.bind_some, Option.isNone_none, if_true, Bool.false_eq_true, if_false]
                rw [if_neg (by omega), if_neg m2, if_pos (by omega)]
                exact ih (k + 1) now' _ (i + 1) false 0 (p2 + (now' - p1)) (by omega) (by omega) (by omega) (by omega) (by omega) (fun _ => rfl) (by omega) (by simp) (fun h => by cases h)
            | false =>
              have := a1 rfl
              subst this
              simp only [Bool.false_eq_true, if_false] at ev a3 ⊢
              rw [stop_eq false 0 p2 now' (by unfold R64; omega) (by unfold R64; omega)]
              unfold stopR
              rw [okB_mk (by omega) (fun _ => rfl) (by omega), tB_mk (by omega)]
              simp only [Bool.and_self, if_true, Bool.false_eq_true, if_false, Option.bind_some, Option.isNone_none]
              rw [view_at _ (by omega) true now' p2 now' (by unfold R64; omega) (by unfold R64; omega), view_ok (by omega) (fun h => by cases h) (by omega) (by omega)]
              simp only [Option.bind_some, Option.isNone_none, if_true]
              rw [if_neg (by omega), if_pos (by omega)]
              exact ih (k + 1) now' _ (i + 1) true now' p2 (by omega) (by omega) (by omega) (by omega) (by omega) (fun h => by cases h) (by omega) (by simp) (fun _ => by omega)
        have hvl : ¬ v < last := by rw [ev, a3]; split <;> omega
        rw [if_neg hvl]
        cases p0 with
        | true =>
          simp only [if_true] at ev a3 ⊢
          rw [if_pos (by omega)]
          exact key
        | false =>
          simp only [Bool.false_eq_true, if_false] at ev a3 ⊢
          rw [R64.wrap (a := v - last) (by unfold R64; omega), show v - last = (rd_T96 l i).f0 by omega]
          simp only [bne_self_eq_false]
          exact key
      · rw [decide_eq_false h60]; exact hend _ _ _ _ _ _ _ (by omega)
    · rw [if_neg hin]; exact hend _ _ _ _ _ _ _ (by omega)
theorem holds (l : List S96) (hl : ∀ x ∈ l, (0 ≤ x.f0 ∧ x.f0 ≤ 65535) ∧ (0 ≤ x.f1 ∧ x.f1 ≤ 65535)) : fuseelaw27_PauseHolds.f 300 l = some true := by
  unfold fuseelaw27_PauseHolds.f
  rw [view_at _ (by omega) false 0 0 0 (by unfold R64; omega) (by unfold R64; omega), view_ok (by omega) (fun _ => rfl) (by omega) (by omega)]
  simp only [Option.bind_some, Option.isNone_none, if_true, Bool.false_eq_true, if_false]
  exact loop l hl 60 300 0 _ 0 false 0 0 (by omega) (by omega) (by omega) (by omega) (by omega) (fun _ => rfl) (by omega) (by simp) (fun h => by cases h)
theorem done (l : List S96) (hm : l.length ≤ maxLen) (wl : ∀ x ∈ l, (Lit.int .u16 x.f0).wf = true ∧ (Lit.int .u16 x.f1).wf = true) : ∃ k, fuseelaw27_PauseHolds.f k l = some true :=
  ⟨300, holds l (fun x h => ⟨bounds_u16 (wl x h).1, bounds_u16 (wl x h).2⟩)⟩
end Go.Proofs.YtfipgpfmlkfkfaaDoor.MPauseHolds
