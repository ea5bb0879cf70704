/-
  A host's check, how far off it is, and what it tells.
-/
import Derived.Test.YtcpbfckmngbgdaaDoorHoP
namespace Go.Proofs.YtcpbfckmngbgdaaDoor.MHo
open Go.RowKit Go.Proofs.YtcpbfckmngbgdaaDoorW.PrintWords Go.Proofs.YtcpbfckmngbgdaaDoorW.PrintMore
set_option linter.unusedVariables false
set_option linter.unusedSimpArgs false

/-! ### a host -/
def absI (a : Int) : Int := if a < 0 then -a else a
theorem size_eq (a : Int) (h : -4611686018427387904 ≤ a ∧ a ≤ 4611686018427387904) : num_Size.f a = some (absI a) := by
  rw [pSize a (by unfold R64; omega)]
  unfold absI
  split
  · rw [sat_of (by unfold R64; omega)]
  · rfl
def okRule (m s rho p i lim most : Int) : Prop := (1 ≤ m ∧ 0 ≤ s ∧ s ≤ 31) ∧ (0 ≤ rho ∧ rho ≤ 1048576) ∧ _root_.Go.Proofs.YtcpbfckmngbgdaaDoor.MSv.okGain p i lim ∧ (1 ≤ most ∧ most ≤ 1125899906842624)
instance (m s rho p i lim most : Int) : Decidable (okRule m s rho p i lim most) := by unfold okRule; infer_instance
theorem rmay_eq (m s rho p i lim most : Int) (hm : 0 ≤ m) : host_Rule_may.f m s rho p i lim most = some (decide (okRule m s rho p i lim most)) := by
  have no : ∀ {b : Bool}, ¬ okRule m s rho p i lim most → b = false → some b = some (decide (okRule m s rho p i lim most)) := fun h e => by rw [decide_eq_false h, e]
  unfold host_Rule_may.f
  rw [rcheck_eq]
  by_cases h1 : m = 0 ∨ s < 0 ∨ 31 < s
  · rw [if_pos h1]
    exact no (fun q => by have := q.1; omega) rfl
  rw [if_neg h1]
  simp only [Option.bind_some, Option.isNone_none, if_true]
  by_cases h2 : rho ≥ 0
  case neg => rw [if_neg h2]; exact no (fun q => by have := q.2.1; omega) rfl
  rw [if_pos h2]
  by_cases h3 : rho ≤ 1048576
  case neg => rw [if_neg h3]; exact no (fun q => by have := q.2.1; omega) rfl
  rw [if_pos h3, check_eq]
  by_cases h4 : _root_.Go.Proofs.YtcpbfckmngbgdaaDoor.MSv.okGain p i lim
  case neg => rw [if_neg h4]; exact no (fun q => h4 q.2.2.1) rfl
  rw [if_pos h4]
  simp only [Option.bind_some, Option.isNone_none, if_true]
  by_cases h5 : most ≥ 1
  · rw [if_pos h5]; congr 1; rw [decide_eq_decide]
    exact ⟨fun q => ⟨⟨by omega, by omega, by omega⟩, ⟨h2, h3⟩, h4, h5, q⟩, fun q => q.2.2.2.2⟩
  · rw [if_neg h5]; exact no (fun q => by have := q.2.2.2; omega) rfl
def okState (lim base tai err fr sm : Int) : Prop := (0 ≤ base ∧ base ≤ 1152921504606846976) ∧ (-4611686018427387904 < tai ∧ tai < 4611686018427387904) ∧ (0 ≤ err ∧ err ≤ 2305843009213693952) ∧ (-lim ≤ fr ∧ fr ≤ lim) ∧ (-1048576 ≤ sm ∧ sm ≤ 1048576)
instance (lim base tai err fr sm : Int) : Decidable (okState lim base tai err fr sm) := by unfold okState; infer_instance
theorem time_eq (t : Int) : host_time.f t = some (decide (-4611686018427387904 < t ∧ t < 4611686018427387904)) := by
  unfold host_time.f
  split
  · congr 1; rw [decide_eq_decide]; omega
  · rw [decide_eq_false (by omega)]
theorem hc1_eq (k : Nat) (b : Bool) (m s rho p i lim most : Int) (sy : Bool) (base tai err fr sm : Int) (hl : 0 ≤ lim ∧ lim ≤ 1048576 ∨ b = true) (hf : R64 fr) (hs : R64 sm) :
    host_Check.j1 (k + 1) b m s rho p i lim most sy base tai err fr sm = some (if b = false ∧ (-lim ≤ fr ∧ fr ≤ lim) ∧ (-1048576 ≤ sm ∧ sm ≤ 1048576) then none else some 1) := by
  simp only [host_Check.j1]
  cases b with
  | true => rw [if_pos rfl, if_neg (by simp)]
  | false =>
    have hl' := hl.resolve_right (by simp)
    rw [if_neg (by simp), pSize fr hf, Option.bind_some, pSize sm hs]
    have ha : (if fr < 0 then sat (-fr) else fr) > lim ↔ ¬ (-lim ≤ fr ∧ fr ≤ lim) := by
      have := sat_cases (-fr); unfold R64 at *
      split <;> omega
    have hb : (if sm < 0 then sat (-sm) else sm) > 1048576 ↔ ¬ (-1048576 ≤ sm ∧ sm ≤ 1048576) := by
      have := sat_cases (-sm); unfold R64 at *
      split <;> omega
    by_cases h1 : -lim ≤ fr ∧ fr ≤ lim
    · rw [if_neg (fun q => (ha.1 q) h1), Option.bind_some]
      by_cases h2 : -1048576 ≤ sm ∧ sm ≤ 1048576
      · rw [if_neg (fun q => (hb.1 q) h2), if_pos ⟨rfl, h1, h2⟩]
      · rw [if_pos (hb.2 h2), if_neg (fun q => h2 q.2.2)]
    · rw [if_pos (ha.2 h1), if_neg (fun q => h1 q.2.1)]
theorem hcheck_eq (k : Nat) (hk : 2 ≤ k) (m s rho p i lim most : Int) (sy : Bool) (base tai err fr sm : Int) (hm : 0 ≤ m) (hf : R64 fr) (hs : R64 sm) :
    host_Check.f k m s rho p i lim most sy base tai err fr sm = some (if okRule m s rho p i lim most ∧ okState lim base tai err fr sm then none else some 1) := by
  obtain ⟨k, rfl⟩ : ∃ q, k = q + 2 := ⟨k - 2, by omega⟩
  unfold host_Check.f
  rw [rmay_eq m s rho p i lim most hm]
  simp only [Option.bind_some]
  by_cases h : okRule m s rho p i lim most
  case neg =>
    rw [decide_eq_false h, if_neg (by simp), Bool.not_false, hc1_eq (k + 1) _ _ _ _ _ _ _ _ _ _ _ _ _ _ (Or.inr rfl) hf hs, if_neg (by simp), if_neg (fun q => h q.1)]
  have hl := h.2.2.1.2.2.2.2
  rw [decide_eq_true h, if_pos rfl]
  have j0 : ∀ b : Bool, host_Check.j0 (k + 2) b m s rho p i lim most sy base tai err fr sm = some (if b = false ∧ (-4611686018427387904 < tai ∧ tai < 4611686018427387904) ∧ (0 ≤ err ∧ err ≤ 2305843009213693952) ∧ (-lim ≤ fr ∧ fr ≤ lim) ∧ (-1048576 ≤ sm ∧ sm ≤ 1048576) then none else some 1) := by
    intro b
    simp only [host_Check.j0]
    cases b with
    | true => rw [if_pos rfl, hc1_eq k _ _ _ _ _ _ _ _ _ _ _ _ _ _ (Or.inr rfl) hf hs, if_neg (by simp), if_neg (by simp)]
    | false =>
      rw [if_neg (by simp), time_eq]
      simp only [Option.bind_some]
      by_cases h1 : -4611686018427387904 < tai ∧ tai < 4611686018427387904
      · rw [decide_eq_true h1, if_pos rfl]
        by_cases h2 : err < 0
        · rw [if_pos h2, hc1_eq k _ _ _ _ _ _ _ _ _ _ _ _ _ _ (Or.inr rfl) hf hs, if_neg (by simp), if_neg (by omega)]
        · rw [if_neg h2, hc1_eq k _ _ _ _ _ _ _ _ _ _ _ _ _ _ (Or.inl hl) hf hs]
          congr 1
          by_cases h3 : err ≤ 2305843009213693952
          · rw [decide_eq_false (by omega)]
            by_cases h4 : (-lim ≤ fr ∧ fr ≤ lim) ∧ (-1048576 ≤ sm ∧ sm ≤ 1048576)
            · rw [if_pos ⟨rfl, h4⟩, if_pos ⟨(by first | exact trivial | exact rfl), h1, by omega, h4⟩]
            · rw [if_neg (fun q => h4 q.2), if_neg (fun q => h4 q.2.2.2)]
          · rw [decide_eq_true (by omega), if_neg (by simp), if_neg (by omega)]
      · rw [decide_eq_false h1, if_neg (by simp), Bool.not_false, hc1_eq k _ _ _ _ _ _ _ _ _ _ _ _ _ _ (Or.inr rfl) hf hs, if_neg (by simp), if_neg (fun q => h1 q.2.1)]
  by_cases h0 : base < 0
  · rw [if_pos h0, j0, if_neg (by simp), if_neg (fun q => by have := q.2.1; omega)]
  · rw [if_neg h0, j0]
    congr 1
    by_cases h3 : base ≤ 1152921504606846976
    · rw [decide_eq_false (by omega)]
      by_cases h4 : okState lim base tai err fr sm
      · rw [if_pos ⟨rfl, h4.2⟩, if_pos ⟨h, h4⟩]
      · rw [if_neg (fun q => h4 ⟨by omega, q.2⟩), if_neg (fun q => h4 q.2)]
    · rw [decide_eq_true (by omega), if_neg (by simp), if_neg (fun q => by have := q.2.1; omega)]
/-- how far off a host is, so many steps gone -/
def offR (m : Int) (s : Nat) (rho err fr g : Int) : Int × Option Int :=
  if R64 (g * m / 2 ^ s) then (sat (sat (err + cd (sat (g * m / 2 ^ s + 1) * (rho + absI fr)) 1073741824) + (g / 2 ^ s + 4)), none) else (0, some 2)
theorem hoff_eq (k : Nat) (hk : 20 ≤ k) (m rho p i lim most : Int) (s : Nat) (sy : Bool) (base tai err fr sm g : Int) (hm : 1 ≤ m ∧ m < 4294967296) (hs : s ≤ 31) (hr : 0 ≤ rho ∧ rho ≤ 1048576) (he : 0 ≤ err ∧ err ≤ 2305843009213693952) (hf : -1048576 ≤ fr ∧ fr ≤ 1048576) (hg : 0 ≤ g ∧ g ≤ 1125899906842624) :
    host_Host_off.f k m (s : Int) rho p i lim most sy base tai err fr sm g = some (offR m s rho err fr g) := by
  unfold host_Host_off.f offR
  rw [scale_eq k s (by omega) hs m g hm (by unfold R64; omega)]
  have h0 : 0 ≤ g * m / 2 ^ s := Int.ediv_nonneg (Int.mul_nonneg hg.1 (by omega)) (Int.le_of_lt (two_pow_pos s))
  by_cases h : R64 (g * m / 2 ^ s)
  · rw [if_pos h, if_pos h]
    simp only [Option.bind_some, Option.isNone_none, if_true]
    have ha : 0 ≤ absI fr ∧ absI fr ≤ 1048576 := by unfold absI; split <;> omega
    have hsr := sat_range (g * m / 2 ^ s + 1)
    have hs0 : 0 ≤ sat (g * m / 2 ^ s + 1) := by have := sat_cases (g * m / 2 ^ s + 1); unfold R64 at *; omega
    rw [size_eq fr (by omega), Option.bind_some, pAddSat _ 1 h (by unfold R64; omega), Option.bind_some, show wrap64 (rho + absI fr) = rho + absI fr by unfold wrap64; omega, grow_at k (by omega) err _ _ (by unfold R64; omega) (by unfold R64; omega) hsr, if_neg (by omega)]
    simp only [Option.bind_some, Option.isNone_none, if_true]
    unfold ratio_Off.f
    rw [rcheck_eq, if_neg (by omega)]
    simp only [Option.bind_some, Option.isNone_none, if_true]
    have e1 : shr .i64 g (s : Int) = g / 2 ^ s := by unfold shr; rw [show min ((s : Int)).toNat IntKind.i64.bits = s by rw [show IntKind.i64.bits = 64 from rfl]; omega]
    have hd0 : 0 ≤ g / 2 ^ s := Int.ediv_nonneg hg.1 (Int.le_of_lt (two_pow_pos s))
    have hd1 : g / 2 ^ s ≤ g := Int.ediv_le_self _ hg.1
    rw [if_neg (by omega), if_pos (by omega), e1, pAdd _ 2 (by unfold R64; omega) (by unfold R64; omega), if_pos (by unfold R64; omega)]
    simp only [Option.bind_some, Option.isNone_none, if_true]
    rw [pAddSat _ 2 (by unfold R64; omega) (by unfold R64; omega), Option.bind_some, sat_of (a := g / 2 ^ s + 2 + 2) (by unfold R64; omega), pAddSat _ _ (sat_range _) (by unfold R64; omega), Option.bind_some, show g / 2 ^ s + 2 + 2 = g / 2 ^ s + 4 by omega]
  · rw [if_neg h, if_neg h]; rfl
/-- what a host reckons at a counter -/
def recG (m : Int) (s : Nat) (rho tai err fr g : Int) : Int × Int × Option Int :=
  if (adjR m s fr).2.2 = none then (if R64 (g * (adjR m s fr).1 / 2 ^ s) ∧ -4611686018427387904 < tai + g * (adjR m s fr).1 / 2 ^ s ∧ tai + g * (adjR m s fr).1 / 2 ^ s < 4611686018427387904 then (if (offR m s rho err fr g).2 = none then (tai + g * (adjR m s fr).1 / 2 ^ s, (offR m s rho err fr g).1, none) else (0, 0, (offR m s rho err fr g).2)) else (0, 0, some 2)) else (0, 0, (adjR m s fr).2.2)
def recR (m : Int) (s : Nat) (rho base tai err fr c : Int) : Int × Int × Option Int :=
  if c < base then (0, 0, some 10) else if c - base > 1125899906842624 then (0, 0, some 2) else recG m s rho tai err fr (c - base)
theorem rec_eq (k : Nat) (hk : 22 ≤ k) (m rho p i lim most : Int) (s : Nat) (sy : Bool) (base tai err fr sm c : Int) (hm : m < 4294967296) (hR : okRule m (s : Int) rho p i lim most) (hS : okState lim base tai err fr sm) (hc : R64 c) :
    host_Host_reckoned.f k m (s : Int) rho p i lim most sy base tai err fr sm c = some (recR m s rho base tai err fr c) := by
  obtain ⟨k, rfl⟩ : ∃ q, k = q + 1 := ⟨k - 1, by omega⟩
  obtain ⟨⟨m1, s0, s31⟩, hrho, hgain, hmost⟩ := hR
  have hgl := hgain.2.2.2.2
  obtain ⟨hbase, htai, herr, hfr, hsm⟩ := hS
  unfold host_Host_reckoned.f recR host_Host_gone.f
  by_cases h1 : c < base
  · rw [if_pos h1, if_pos h1]; rfl
  rw [if_neg h1, if_neg h1, pSub c base hc (by unfold R64; omega), if_pos (by unfold R64 at *; omega)]
  simp only [Option.bind_some, Option.isNone_none, if_true]
  by_cases h2 : c - base > 1125899906842624
  · rw [if_pos h2, if_pos h2]; rfl
  rw [if_neg h2, if_neg h2]
  simp only [Option.bind_some, Option.isNone_none, if_true]
  unfold host_Factor.f recG
  rw [hcheck_eq (k + 1) (by omega) m s rho p i lim most sy base tai err fr sm (by omega) (by unfold R64; omega) (by unfold R64; omega), if_pos ⟨⟨⟨m1, s0, s31⟩, hrho, hgain, hmost⟩, hbase, htai, herr, hfr, hsm⟩]
  simp only [Option.bind_some, Option.isNone_none, if_true]
  rw [adjust_eq (k + 1) (by omega) m s fr ⟨m1, hm⟩ ⟨s0, s31⟩ (by omega)]
  simp only [Option.bind_some]
  obtain ⟨A, hA⟩ : ∃ A, A = adjR m (s : Int) fr := ⟨_, rfl⟩
  have hA1 : A.2.2 = none → A.2.1 = (s : Int) ∧ 1 ≤ A.1 ∧ A.1 < 4294967296 := by
    rw [hA]; unfold adjR
    split
    · intro _; exact ⟨rfl, by assumption⟩
    · intro q; simp at q
  rw [← hA]
  obtain ⟨a1, a2, a3⟩ := A
  cases a3 with
  | some e => simp
  | none =>
    obtain ⟨rfl, ha⟩ := hA1 rfl
    simp only [Option.isNone_none, if_true]
    rw [scale_eq (k + 1) s (by omega) (by omega) a1 (c - base) ha (by unfold R64; omega)]
    by_cases h3 : R64 ((c - base) * a1 / 2 ^ s)
    · rw [if_pos h3]
      simp only [Option.bind_some, Option.isNone_none, if_true]
      have j0 : ∀ (b : Bool) (t : Int), host_Host_reckoned.j0 (k + 1) (c - base) t b m (s : Int) rho p i lim most sy base tai err fr sm = some (if b = true then (0, 0, some 2) else if (offR m s rho err fr (c - base)).2 = none then (t, (offR m s rho err fr (c - base)).1, none) else (0, 0, (offR m s rho err fr (c - base)).2)) := by
        intro b t
        simp only [host_Host_reckoned.j0]
        cases b with
        | true => rw [if_pos rfl, if_pos rfl]
        | false =>
          rw [if_neg (by simp), if_neg (by simp), hoff_eq k (by omega) m rho p i lim most s sy base tai err fr sm (c - base) ⟨m1, hm⟩ (by omega) hrho herr (by omega) (by omega)]
          simp only [Option.bind_some]
          cases (offR m s rho err fr (c - base)).2 with
          | none => simp
          | some e => simp
      rw [pAdd tai _ (by unfold R64; omega) h3]
      by_cases h4 : R64 (tai + (c - base) * a1 / 2 ^ s)
      · rw [if_pos h4]
        simp only [Option.bind_some, Option.isNone_none, if_true]
        rw [time_eq, Option.bind_some, j0]
        by_cases h5 : -4611686018427387904 < tai + (c - base) * a1 / 2 ^ s ∧ tai + (c - base) * a1 / 2 ^ s < 4611686018427387904
        · rw [decide_eq_true h5, if_neg (by simp), if_pos (And.intro h3 h5)]
        · rw [decide_eq_false h5, if_pos (by simp), if_neg (fun q => h5 q.2)]
      · rw [if_neg h4]
        simp only [Option.bind_some, Option.isNone_some, Bool.false_eq_true, if_false]
        rw [j0, if_pos rfl, if_neg (fun q => h4 (by unfold R64; omega))]
    · rw [if_neg h3]
      simp only [Option.bind_some, Option.isNone_some, Bool.false_eq_true, if_false, Option.getD_some]
      rw [if_neg (fun q => h3 q.1)]
def nowR (m : Int) (s : Nat) (rho most : Int) (sy : Bool) (base tai err fr c : Int) : Int × Int × Option Int :=
  if sy = true then (if (recR m s rho base tai err fr c).2.2 = none then (if (recR m s rho base tai err fr c).2.1 > most then (0, 0, some 13) else ((recR m s rho base tai err fr c).1, (recR m s rho base tai err fr c).2.1, none)) else (0, 0, (recR m s rho base tai err fr c).2.2)) else (0, 0, some 13)
theorem now_eq (k : Nat) (hk : 22 ≤ k) (m rho p i lim most : Int) (s : Nat) (sy : Bool) (base tai err fr sm c : Int) (hm : m < 4294967296) (hR : okRule m (s : Int) rho p i lim most) (hS : okState lim base tai err fr sm) (hc : R64 c) :
    host_Now.f k m (s : Int) rho p i lim most sy base tai err fr sm c = some (nowR m s rho most sy base tai err fr c) := by
  unfold host_Now.f nowR
  have hgl := hR.2.2.1.2.2.2.2
  rw [hcheck_eq k (by omega) m s rho p i lim most sy base tai err fr sm (by have := hR.1; omega) (by have := hS.2.2.2.1; unfold R64; omega) (by have := hS.2.2.2.2; unfold R64; omega), if_pos ⟨hR, hS⟩]
  simp only [Option.bind_some, Option.isNone_none, if_true]
  cases sy with
  | false => simp
  | true =>
    simp only [if_true]
    rw [rec_eq k hk m rho p i lim most s true base tai err fr sm c hm hR hS hc]
    simp only [Option.bind_some]
    cases (recR m s rho base tai err fr c).2.2 with
    | none =>
      simp only [Option.isNone_none, if_true]
      split <;> rfl
    | some e => simp

theorem nn_ : (none : Option Int).isNone = true := rfl
/-! ### a host is set -/
theorem set_eq (m s rho p i lim most : Int) (sy : Bool) (base tai err fr sm c lo hi : Int) (h : lo ≤ hi) (h0 : -4611686018427387904 ≤ lo) (h1 : hi ≤ 4611686018427387904) :
    host_Host_set.f m s rho p i lim most sy base tai err fr sm c lo hi = some (m, s, rho, p, i, lim, most, true, c, (lo + hi) / 2, hi - (lo + hi) / 2, fr, sm, none) := by
  unfold host_Host_set.f
  rw [mid_eq lo hi (by unfold R64; omega) (by unfold R64; omega), if_pos h, Option.bind_some, if_pos nn_, sat_of (by unfold R64; omega)]
theorem sync_first (k : Nat) (hk : 24 ≤ k) (m s rho p i lim most base tai err fr sm c lo hi : Int) (hm : 0 ≤ m) (hR : okRule m s rho p i lim most) (hS : okState lim base tai err fr sm) (hc : 0 ≤ c ∧ c ≤ 1152921504606846976) (h : lo ≤ hi) (h0 : -2305843009213693952 < lo) (h1 : hi < 2305843009213693952) :
    host_Sync.f k m s rho p i lim most false base tai err fr sm c lo hi = some (m, s, rho, p, i, lim, most, true, c, (lo + hi) / 2, hi - (lo + hi) / 2, fr, sm, none) := by
  obtain ⟨k, rfl⟩ : ∃ q, k = q + 1 := ⟨k - 1, by omega⟩
  have hgl := hR.2.2.1.2.2.2.2
  unfold host_Sync.f
  rw [hcheck_eq (k + 1) (by omega) m s rho p i lim most false base tai err fr sm hm (by have := hS.2.2.2.1; unfold R64; omega) (by have := hS.2.2.2.2; unfold R64; omega), if_pos ⟨hR, hS⟩, Option.bind_some, if_pos nn_, if_neg (by omega), if_neg (by omega), pcheck_eq, if_pos h, Option.bind_some, if_pos nn_, if_neg (by omega), decide_eq_false (by omega)]
  simp only [host_Sync.j0, Bool.false_eq_true, if_false]
  rw [set_eq m s rho p i lim most false base tai err fr sm c lo hi h (by omega) (by omega), Option.bind_some]
theorem sync_next (k : Nat) (hk : 26 ≤ k) (m rho p i lim most : Int) (s : Nat) (base tai err fr sm c lo hi t o : Int) (hm : m < 4294967296) (hR : okRule m (s : Int) rho p i lim most) (hS : okState lim base tai err fr sm) (hc : 0 ≤ c ∧ c ≤ 1152921504606846976) (h : lo ≤ hi) (h0 : -2305843009213693952 < lo) (h1 : hi < 2305843009213693952)
    (hr : recR m s rho base tai err fr c = (t, o, none)) (ht : -4611686018427387904 ≤ t ∧ t ≤ 4611686018427387904) (ho : 0 ≤ o ∧ o ≤ 2305843009213693952) (a b : Int) (ha : a = max lo (t - o)) (hb : b = min hi (t + o)) (hab : a ≤ b) :
    host_Sync.f k m (s : Int) rho p i lim most true base tai err fr sm c lo hi = some (m, (s : Int), rho, p, i, lim, most, true, c, (a + b) / 2, b - (a + b) / 2, (stepV sm p i lim (sat ((a + b) / 2 - t))).1, (stepV sm p i lim (sat ((a + b) / 2 - t))).2, none) := by
  obtain ⟨k, rfl⟩ : ∃ q, k = q + 2 := ⟨k - 2, by omega⟩
  have hgl := hR.2.2.1.2.2.2.2
  have hsm := hS.2.2.2.2
  unfold host_Sync.f
  rw [hcheck_eq (k + 2) (by omega) m s rho p i lim most true base tai err fr sm (by have := hR.1; omega) (by have := hS.2.2.2.1; unfold R64; omega) (by unfold R64; omega), if_pos ⟨hR, hS⟩, Option.bind_some, if_pos nn_, if_neg (by omega), if_neg (by omega), pcheck_eq, if_pos h, Option.bind_some, if_pos nn_, if_neg (by omega), decide_eq_false (by omega)]
  simp only [host_Sync.j0, Bool.false_eq_true, if_false, if_true]
  rw [rec_eq (k + 1) (by omega) m rho p i lim most s true base tai err fr sm c hm hR hS (by unfold R64; omega), hr]
  simp only [Option.bind_some, errors_Is.f, Bool.false_eq_true, if_false, Option.isNone_none, if_true]
  rw [pSubSat t o (by unfold R64; omega) (by unfold R64; omega), sat_of (a := t - o) (by unfold R64; omega), Option.bind_some, pAddSat t o (by unfold R64; omega) (by unfold R64; omega), sat_of (a := t + o) (by unfold R64; omega), Option.bind_some, meet_eq, Option.bind_some]
  unfold meetR
  rw [← ha, ← hb, if_pos (show lo ≤ hi ∧ t - o ≤ t + o ∧ a ≤ b from ⟨h, by omega, hab⟩)]
  simp only [if_true, host_Sync.j1]
  have hstep := step_eq fr sm p i lim (sat ((a + b) / 2 - t)) (by unfold R64; omega) (sat_range _) hR.2.2.1
  rw [set_eq m s rho p i lim most true base tai err fr sm c a b hab (by omega) (by omega), Option.bind_some]
  simp only [Option.isNone_none, if_true]
  rw [pSubSat _ t (by unfold R64; omega) (by unfold R64; omega), Option.bind_some, hstep, Option.bind_some]
theorem stepV_in (s1 p i lim off : Int) (h : 0 ≤ lim) : -lim ≤ (stepV s1 p i lim off).1 ∧ (stepV s1 p i lim off).1 ≤ lim ∧ -1048576 ≤ (stepV s1 p i lim off).2 ∧ (stepV s1 p i lim off).2 ≤ 1048576 := by
  have c := cl_small (cl s1 + cl (off / 1024))
  refine ⟨?_, ?_, c.1, c.2⟩
  · unfold stepV mx mn; dsimp only; repeat' split
    all_goals omega
  · unfold stepV mx mn; dsimp only; repeat' split
    all_goals omega

end Go.Proofs.YtcpbfckmngbgdaaDoor.MHo
