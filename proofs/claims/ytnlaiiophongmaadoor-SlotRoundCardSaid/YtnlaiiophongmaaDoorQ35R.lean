/-
  SlotRound in plain numbers.
-/
import Derived.Test.YtnlaiiophongmaaDoorK
import Derived.Test.YtnlaiiophongmaaDoorMath
import Derived.Test.YtnlaiiophongmaaDoorMSlotRoundx
namespace Go.Proofs.YtnlaiiophongmaaDoor.MSlotRound
open Go.RowKit Go.Proofs.YtnlaiiophongmaaDoorW.PrintWords Go.Proofs.YtnlaiiophongmaaDoorW.PrintMore
set_option linter.unusedVariables false
set_option linter.unusedSimpArgs false

/-- the printed error is the error as a value -/
theorem errW_errV (o : Option Int) : errW o = errV o := by cases o <;> rfl
theorem pDiv (a b : Int) (ha : R64 a) (hb : R64 b) (h : 1 ≤ b) : num_Div.f a b = some (a / b, a % b, none) := by
  unfold num_Div.f
  have hr0 := Int.emod_nonneg a (show b ≠ 0 by omega)
  have hr1 := Int.emod_lt_of_pos a (show 0 < b by omega)
  have hq := div_bounds ha h
  have ht := (tdiv_range ha h).wrap
  rw [if_neg (by omega), if_neg (by omega), ht]
  rcases Int.lt_or_le a 0 with h0 | h0
  · have e1 := tdiv_neg h0 h
    have e2 := tmod_neg h0 h
    by_cases hz : a % b = 0
    · rw [if_pos hz] at e1 e2
      rw [if_neg (by omega), e1, e2]; simp
    · rw [if_neg hz] at e1 e2
      rw [if_pos (by omega), e1, e2, R64.wrap (by simpa using hq.1), R64.wrap (by unfold R64 at *; omega)]; simp
  · rw [Int.tmod_eq_emod_of_nonneg h0, tdiv_of_nonneg h0, if_neg (by omega)]
theorem pDivBad (a b : Int) (h : b < 1) : num_Div.f a b = some (0, 0, some 1) := by unfold num_Div.f; rw [if_pos h]

/-- a round that may be -/
def okR (S : Int) (l : List ByteArray) : Prop := 1 ≤ S ∧ S ≤ 1073741824 ∧ 1 ≤ l.length ∧ l.length ≤ 16 ∧ ∀ s ∈ l, s.size ≤ 12
instance (S : Int) (l : List ByteArray) : Decidable (okR S l) := by unfold okR; infer_instance
theorem rdO_mem {l : List ByteArray} {i : Int} (h0 : 0 ≤ i) (h : i < l.length) : rdOf ByteArray.empty l i ∈ l := by
  unfold rdOf
  have hn : i.toNat < l.length := by omega
  simp only [List.getD_eq_getElem?_getD, List.getElem?_eq_getElem hn, Option.getD_some]
  exact List.getElem_mem hn
theorem mem_rdO {l : List ByteArray} {s : ByteArray} (h : s ∈ l) : ∃ i : Nat, i < l.length ∧ rdOf ByteArray.empty l i = s := by
  obtain ⟨i, hi, e⟩ := List.getElem_of_mem h
  refine ⟨i, hi, ?_⟩
  unfold rdOf
  simp only [Int.toNat_natCast, List.getD_eq_getElem?_getD, List.getElem?_eq_getElem hi, Option.getD_some, e]
theorem wl {a : Int} (h0 : 0 ≤ a) (h : a < 9223372036854775807) : wrap64 a = a := R64.wrap (by unfold R64; omega)
theorem long_at : ∀ (d k : Nat) (l : List ByteArray) (i : Nat), l.length - i = d → i ≤ l.length → d + 1 ≤ k → l.length ≤ 1000 →
    ∃ r, slices_IndexFunc_string_string_108_at70.l0 k l (l.length : Int) i = some r ∧ (0 ≤ r ↔ ∃ j : Nat, i ≤ j ∧ j < l.length ∧ 12 < (rdOf ByteArray.empty l j).size) := by
  intro d
  induction d with
  | zero =>
    intro k l i hd hi hk hl
    obtain ⟨k, rfl⟩ : ∃ m, k = m + 1 := ⟨k - 1, by omega⟩
    refine ⟨-1, ?_, ?_⟩
    · rw [slices_IndexFunc_string_string_108_at70.l0, if_neg (by omega)]
    · constructor
      · intro h; omega
      · rintro ⟨j, h1, h2, _⟩; omega
  | succ d ih =>
    intro k l i hd hi hk hl
    obtain ⟨k, rfl⟩ : ∃ m, k = m + 1 := ⟨k - 1, by omega⟩
    rw [slices_IndexFunc_string_string_108_at70.l0, if_pos (by omega), if_pos (by omega), if_pos (by omega)]
    unfold slot_Check_1.f
    simp only [Option.bind_some, decide_eq_true_eq]
    by_cases h : ((rdOf ByteArray.empty l (i : Int)).size : Int) > 12
    · rw [if_pos h]
      exact ⟨_, rfl, ⟨fun _ => ⟨i, Nat.le_refl _, by omega, by omega⟩, fun _ => by omega⟩⟩
    · rw [if_neg h, wl (by omega) (by omega)]
      obtain ⟨r, e, hr⟩ := ih k l (i + 1) (by omega) (by omega) (by omega) hl
      refine ⟨r, e, hr.trans ⟨?_, ?_⟩⟩
      · rintro ⟨j, h1, h2, h3⟩; exact ⟨j, by omega, h2, h3⟩
      · rintro ⟨j, h1, h2, h3⟩
        rcases Nat.eq_or_lt_of_le h1 with e2 | e2
        · subst e2; omega
        · exact ⟨j, e2, h2, h3⟩
theorem has_long_at (k : Nat) (l : List ByteArray) (hk : l.length + 1 ≤ k) (hl : l.length ≤ 1000) : slices_ContainsFunc_string_string_69_at70.f k l = some (decide (¬ ∀ s ∈ l, s.size ≤ 12)) := by
  unfold slices_ContainsFunc_string_string_69_at70.f slices_IndexFunc_string_string_108_at70.f
  obtain ⟨r, e, hr⟩ := long_at l.length k l 0 (by omega) (by omega) hk hl
  rw [show ((0 : Int)) = ((0 : Nat) : Int) from rfl, e]
  simp only [Option.bind_some]
  congr 1
  rw [decide_eq_decide]
  refine hr.trans ⟨?_, ?_⟩
  · rintro ⟨j, _, h2, h3⟩ hall
    have := hall _ (rdO_mem (l := l) (i := (j : Int)) (by omega) (by omega)); omega
  · intro h
    simp only [Classical.not_forall] at h
    obtain ⟨s, hs, hx⟩ := h
    obtain ⟨i, hi, e⟩ := mem_rdO hs
    exact ⟨i, Nat.zero_le _, hi, by rw [e]; omega⟩
theorem scheck_at (k : Nat) (hk : 20 ≤ k) (S : Int) (l : List ByteArray) : slot_Check.f k S l = some (if okR S l then none else some 1) := by
  obtain ⟨k, rfl⟩ : ∃ m, k = m + 1 := ⟨k - 1, by omega⟩
  have bad : ¬ okR S l → slot_Check.j0 (k + 1) true S l = some (if okR S l then none else some 1) := by
    intro h; rw [if_neg h]; simp [slot_Check.j0]
  unfold slot_Check.f
  by_cases h1 : S < 1
  · rw [if_pos h1]; exact bad (by unfold okR; omega)
  rw [if_neg h1]
  by_cases h2 : S > 1073741824
  · rw [if_pos h2]; exact bad (by unfold okR; omega)
  rw [if_neg h2]
  by_cases h3 : (l.length : Int) < 1
  · rw [if_pos h3]; exact bad (by unfold okR; omega)
  rw [if_neg h3]
  by_cases h4 : (l.length : Int) > 16
  · rw [decide_eq_true h4]; exact bad (by unfold okR; omega)
  rw [decide_eq_false h4]
  simp only [slot_Check.j0]
  rw [if_neg (by simp), has_long_at k l (by omega) (by omega)]
  simp only [Option.bind_some, decide_eq_true_eq]
  by_cases h5 : ∀ s ∈ l, s.size ≤ 12
  · rw [if_neg (fun h => h h5), if_pos (show okR S l from ⟨by omega, by omega, by omega, by omega, h5⟩)]
  · rw [if_pos h5, if_neg (show ¬ okR S l from fun h => h5 h.2.2.2.2)]
/-- whose turn it is, and how far within it -/
def goodR (S : Int) (l : List ByteArray) (t : Int) : Prop := okR S l ∧ 0 ≤ t ∧ t ≤ 1152921504606846976
instance (S : Int) (l : List ByteArray) (t : Int) : Decidable (goodR S l t) := by unfold goodR; infer_instance
theorem at_at (k : Nat) (hk : 21 ≤ k) (S : Int) (l : List ByteArray) (t : Int) (ht : R64 t) : slot_at.f k S l t = some (if goodR S l t then (t / S % l.length, t % S, none) else (0, 0, some 1)) := by
  obtain ⟨k, rfl⟩ : ∃ m, k = m + 1 := ⟨k - 1, by omega⟩
  have bad : ¬ goodR S l t → slot_at.j0 (k + 1) t true S l = some (if goodR S l t then (t / S % l.length, t % S, none) else (0, 0, some 1)) := by
    intro h; rw [if_neg h]; simp [slot_at.j0]
  unfold slot_at.f
  rw [scheck_at _ (by omega)]
  simp only [Option.bind_some]
  by_cases h : okR S l
  · rw [if_pos h]
    simp only [Option.isNone_none, if_true]
    by_cases h1 : t < 0
    · rw [if_pos h1]; exact bad (fun g => by have := g.2.1; omega)
    rw [if_neg h1]
    by_cases h2 : t > 1152921504606846976
    · rw [decide_eq_true h2]; exact bad (fun g => by have := g.2.2; omega)
    rw [decide_eq_false h2]
    have hh := h
    unfold okR at hh
    simp only [slot_at.j0]
    rw [if_neg (by simp), pDiv t S ht (by unfold R64; omega) (by omega), if_pos (show goodR S l t from ⟨h, by omega, by omega⟩)]
    simp only [Option.bind_some, Option.isNone_none, if_true]
    have hq : 0 ≤ t / S := Int.ediv_nonneg (by omega) (by omega)
    rw [if_neg (by omega), Int.tmod_eq_emod_of_nonneg hq]
  · rw [if_neg h]
    simp only [Option.isNone_some, Bool.false_eq_true, if_false]
    exact bad (fun g => h g.1)
theorem who_at (k : Nat) (hk : 21 ≤ k) (S : Int) (l : List ByteArray) (t : Int) (ht : R64 t) : slot_Who.f k S l t = some (if goodR S l t then (rdOf ByteArray.empty l (t / S % l.length), none) else ((⟨#[]⟩ : ByteArray), some 1)) := by
  unfold slot_Who.f
  rw [at_at k hk S l t ht]
  simp only [Option.bind_some]
  by_cases h : goodR S l t
  · rw [if_pos h, if_pos h]
    have hl := h.1.2.2.1
    have a0 := Int.emod_nonneg (t / S) (show (l.length : Int) ≠ 0 by omega)
    have a1 := Int.emod_lt_of_pos (t / S) (show (0 : Int) < l.length by omega)
    simp only [Option.isNone_none, if_true]
    rw [if_pos a0, if_pos a1]
  · rw [if_neg h, if_neg h]; simp
theorem left_at (k : Nat) (hk : 21 ≤ k) (S : Int) (l : List ByteArray) (t : Int) (ht : R64 t) : slot_Left.f k S l t = some (if goodR S l t then (S - t % S, none) else (0, some 1)) := by
  unfold slot_Left.f
  rw [at_at k hk S l t ht]
  simp only [Option.bind_some]
  by_cases h : goodR S l t
  · rw [if_pos h, if_pos h]
    have h1 := h.1.1; have h2 := h.1.2.1
    have a0 := Int.emod_nonneg t (show S ≠ 0 by omega)
    have a1 := Int.emod_lt_of_pos t (show 0 < S by omega)
    simp only [Option.isNone_none, if_true]
    rw [wl (by omega) (by omega)]
  · rw [if_neg h, if_neg h]; simp
/-- is it his turn? -/
def hit (l : List ByteArray) (nm : ByteArray) (j : Int) : Prop := (rdOf ByteArray.empty l j).toList = nm.toList
instance (l : List ByteArray) (nm : ByteArray) (j : Int) : Decidable (hit l nm j) := by unfold hit; infer_instance
theorem hit_eq {l : List ByteArray} {nm : ByteArray} {j : Int} (h : hit l nm j) : (rdOf ByteArray.empty l j).toList = nm.toList := h
theorem hit_ne {l : List ByteArray} {nm : ByteArray} {j : Int} (h : ¬ hit l nm j) : ¬ ((rdOf ByteArray.empty l j).toList = nm.toList) := h
theorem first_hit (p : Nat → Prop) [∀ i, Decidable (p i)] : ∀ n : Nat, p n → ∃ m, m ≤ n ∧ p m ∧ ∀ i, i < m → ¬ p i
  | 0, h => ⟨0, Nat.le_refl _, h, fun i hi => by omega⟩
  | n + 1, h => by
    by_cases e : ∃ i, i ≤ n ∧ p i
    · obtain ⟨i, hi, hp⟩ := e
      have : ∀ j, j ≤ n → p j → ∃ m, m ≤ j ∧ p m ∧ ∀ i, i < m → ¬ p i := by
        intro j
        induction j using Nat.strongRecOn with
        | _ j ih =>
          intro _ hpj
          by_cases e2 : ∃ i, i < j ∧ p i
          · obtain ⟨i, h1, h2⟩ := e2
            obtain ⟨m, g1, g2, g3⟩ := ih i h1 (by omega) h2
            exact ⟨m, by omega, g2, g3⟩
          · exact ⟨j, Nat.le_refl _, hpj, fun i hi hpi => e2 ⟨i, hi, hpi⟩⟩
      obtain ⟨m, g1, g2, g3⟩ := this i hi hp
      exact ⟨m, by omega, g2, g3⟩
    · exact ⟨n + 1, Nat.le_refl _, h, fun i hi hpi => e ⟨i, by omega, hpi⟩⟩
theorem index_at : ∀ (d k : Nat) (l : List ByteArray) (nm : ByteArray) (i : Nat), l.length - i = d → i ≤ l.length → d + 1 ≤ k → l.length ≤ 1000 →
    ∃ r, slices_Index_string_string.l0 k l nm (l.length : Int) i = some r ∧ (0 ≤ r ↔ ∃ j : Nat, i ≤ j ∧ j < l.length ∧ hit l nm j) := by
  intro d
  induction d with
  | zero =>
    intro k l nm i hd hi hk hl
    obtain ⟨k, rfl⟩ : ∃ m, k = m + 1 := ⟨k - 1, by omega⟩
    refine ⟨-1, ?_, ?_⟩
    · rw [slices_Index_string_string.l0, if_neg (by omega)]
    · constructor
      · intro h; omega
      · rintro ⟨j, h1, h2, _⟩; omega
  | succ d ih =>
    intro k l nm i hd hi hk hl
    obtain ⟨k, rfl⟩ : ∃ m, k = m + 1 := ⟨k - 1, by omega⟩
    rw [slices_Index_string_string.l0, if_pos (by omega), if_pos (by omega), if_pos (by omega)]
    by_cases h : hit l nm (i : Int)
    · rw [if_pos h.symm]
      exact ⟨_, rfl, ⟨fun _ => ⟨i, Nat.le_refl _, by omega, h⟩, fun _ => by omega⟩⟩
    · rw [if_neg (fun e => h e.symm), wl (by omega) (by omega)]
      obtain ⟨r, e, hr⟩ := ih k l nm (i + 1) (by omega) (by omega) (by omega) hl
      refine ⟨r, e, hr.trans ⟨?_, ?_⟩⟩
      · rintro ⟨j, h1, h2, h3⟩; exact ⟨j, by omega, h2, h3⟩
      · rintro ⟨j, h1, h2, h3⟩
        rcases Nat.eq_or_lt_of_le h1 with e2 | e2
        · subst e2; exact absurd h3 h
        · exact ⟨j, e2, h2, h3⟩
/-- is somebody in the round? -/
def inR (l : List ByteArray) (nm : ByteArray) : Prop := ∃ j : Nat, j < l.length ∧ hit l nm j
theorem contains_at (k : Nat) (l : List ByteArray) (nm : ByteArray) (hk : l.length + 1 ≤ k) (hl : l.length ≤ 1000) : ∃ b, slices_Contains_string_string.f k l nm = some b ∧ (b = true ↔ inR l nm) := by
  unfold slices_Contains_string_string.f slices_Index_string_string.f
  obtain ⟨r, e, hr⟩ := index_at l.length k l nm 0 (by omega) (by omega) hk hl
  rw [show ((0 : Int)) = ((0 : Nat) : Int) from rfl, e]
  refine ⟨_, rfl, ?_⟩
  rw [decide_eq_true_eq]
  refine hr.trans ⟨?_, ?_⟩
  · rintro ⟨j, _, h2, h3⟩; exact ⟨j, h2, h3⟩
  · rintro ⟨j, h2, h3⟩; exact ⟨j, Nat.zero_le _, h2, h3⟩
/-- how many of the first turns are his -/
def cnt (l : List ByteArray) (nm : ByteArray) : Nat → Nat
  | 0 => 0
  | i + 1 => cnt l nm i + if hit l nm (i : Int) then 1 else 0
theorem cnt_le (l : List ByteArray) (nm : ByteArray) : ∀ i, cnt l nm i ≤ i
  | 0 => Nat.le_refl _
  | i + 1 => by have := cnt_le l nm i; unfold cnt; split <;> omega
theorem mul_le16 {S : Int} {m : Nat} (h1 : 1 ≤ S) (h2 : S ≤ 1073741824) {c : Nat} (h : m ≤ c) : 0 ≤ S * (m : Int) ∧ S * (m : Int) ≤ 1073741824 * (c : Int) :=
  ⟨Int.mul_nonneg (by omega) (by omega), Int.mul_le_mul h2 (by omega) (by omega) (by omega)⟩
theorem sh_loop : ∀ (d k : Nat) (S : Int) (l : List ByteArray) (nm : ByteArray) (i : Nat), okR S l → l.length - i = d → i ≤ l.length → d + 1 ≤ k →
    slot_Share.l0 k nm (S * (cnt l nm i : Int)) l (l.length : Int) i S l = some (S * (cnt l nm l.length : Int)) := by
  intro d
  induction d with
  | zero =>
    intro k S l nm i ho hd hi hk
    obtain ⟨k, rfl⟩ : ∃ m, k = m + 1 := ⟨k - 1, by omega⟩
    obtain rfl : i = l.length := by omega
    rw [slot_Share.l0, if_neg (by omega)]
  | succ d ih =>
    intro k S l nm i ho hd hi hk
    obtain ⟨k, rfl⟩ : ∃ m, k = m + 1 := ⟨k - 1, by omega⟩
    have hh := ho
    unfold okR at hh
    rw [slot_Share.l0, if_pos (by omega), if_pos (by omega), if_pos (by omega), wl (a := (i : Int) + 1) (by omega) (by omega)]
    have ih' := ih k S l nm (i + 1) ho (by omega) (by omega) (by omega)
    by_cases h : hit l nm (i : Int)
    · have b := mul_le16 hh.1 hh.2.1 (cnt_le l nm i)
      rw [if_pos (hit_eq h), wl (by omega) (by omega), show S * (cnt l nm i : Int) + S = S * (cnt l nm (i + 1) : Int) by rw [cnt, if_pos h, Int.natCast_add, Int.mul_add]; simp]
      exact ih'
    · rw [if_neg (hit_ne h), show S * (cnt l nm i : Int) = S * (cnt l nm (i + 1) : Int) by rw [cnt, if_neg h, Nat.add_zero]]
      exact ih'
theorem share_at (k : Nat) (hk : 25 ≤ k) (S : Int) (l : List ByteArray) (nm : ByteArray) : slot_Share.f k S l nm = some (if okR S l ∧ nm.toList ≠ [] then S * (cnt l nm l.length : Int) else 0) := by
  obtain ⟨k, rfl⟩ : ∃ m, k = m + 1 := ⟨k - 1, by omega⟩
  unfold slot_Share.f
  rw [scheck_at _ (by omega)]
  simp only [Option.bind_some]
  by_cases h : okR S l
  · rw [if_pos h]
    simp only [Option.isNone_none, if_true]
    by_cases hn : nm.toList = []
    · rw [show (nm.toList == ([] : List UInt8)) = true by rw [hn]; rfl, if_neg (show ¬ (okR S l ∧ nm.toList ≠ []) from fun g => g.2 hn)]
      simp only [slot_Share.j0, if_true]
    · rw [show (nm.toList == ([] : List UInt8)) = false from beq_eq_false_iff_ne.2 hn, if_pos (show okR S l ∧ nm.toList ≠ [] from ⟨h, hn⟩)]
      simp only [slot_Share.j0]
      rw [if_neg (by simp)]
      have hh := h
      unfold okR at hh
      have := sh_loop l.length k S l nm 0 h (by omega) (by omega) (by omega)
      simpa [cnt] using this
  · rw [if_neg h, if_neg (show ¬ (okR S l ∧ nm.toList ≠ []) from fun g => h g.1)]
    simp only [Option.isNone_some, Bool.false_eq_true, if_false, slot_Share.j0, if_true]
/-- the numbers of a turn -/
theorem q_of {S t : Int} (h1 : 1 ≤ S) (h0 : 0 ≤ t) : 0 ≤ t / S ∧ S * (t / S) ≤ t ∧ t < S * (t / S) + S ∧ t % S = t - S * (t / S) := by
  have a := Int.ediv_nonneg h0 (show 0 ≤ S by omega)
  have b := Int.emod_nonneg t (show S ≠ 0 by omega)
  have c := Int.emod_lt_of_pos t (show 0 < S by omega)
  have d := Int.emod_def t S
  omega
theorem next_mod (a L : Int) : (a % L + 1) % L = (a + 1) % L := by rw [Int.emod_add_emod]
theorem mod_in {l : List ByteArray} (h : 1 ≤ l.length) (a : Int) : 0 ≤ a % (l.length : Int) ∧ a % (l.length : Int) < l.length :=
  ⟨Int.emod_nonneg _ (by omega), Int.emod_lt_of_pos _ (by omega)⟩
theorem turn_at {S q : Int} {m : Nat} (h1 : 1 ≤ S) (h2 : S ≤ 1073741824) (hq : 0 ≤ q) (hb : S * q ≤ 1152921504606846976) (hm : m ≤ 20) : 0 ≤ S * (q + m) ∧ S * (q + m) ≤ 1152921504606846976 + 21474836480 ∧ S * (q + m) = S * q + S * m := by
  have e := Int.mul_add S q m
  have := mul_le16 h1 h2 hm
  have : 0 ≤ S * q := Int.mul_nonneg (by omega) hq
  omega
theorem nx_loop : ∀ (d k : Nat) (S q : Int) (l : List ByteArray) (nm : ByteArray) (m m0 : Nat), okR S l → 0 ≤ q → S * q ≤ 1152921504606846976 → m + d = m0 → m0 ≤ 16 → d + 1 ≤ k →
    hit l nm ((q + m0) % l.length) → (∀ i, i < m0 → ¬ hit l nm ((q + i) % l.length)) →
    slot_Next.l0 k nm ((q + m) % l.length) (S * (q + m)) S l = some (S * (q + m0), none) := by
  intro d
  induction d with
  | zero =>
    intro k S q l nm m m0 ho hq hb hm h16 hk hit0 hno
    obtain ⟨k, rfl⟩ : ∃ m, k = m + 1 := ⟨k - 1, by omega⟩
    obtain rfl : m = m0 := by omega
    have hr := mod_in (l := l) ho.2.2.1 (q + m)
    rw [slot_Next.l0, if_pos hr.1, if_pos hr.2, if_pos (hit_eq hit0)]
  | succ d ih =>
    intro k S q l nm m m0 ho hq hb hm h16 hk hit0 hno
    obtain ⟨k, rfl⟩ : ∃ m, k = m + 1 := ⟨k - 1, by omega⟩
    have hh := ho
    unfold okR at hh
    have hr := mod_in (l := l) ho.2.2.1 (q + m)
    have tb := turn_at (m := m) hh.1 hh.2.1 hq hb (by omega)
    rw [slot_Next.l0, if_pos hr.1, if_pos hr.2, if_neg (hit_ne (hno m (by omega))), if_neg (by omega)]
    rw [wl (a := (q + m) % (l.length : Int) + 1) (by omega) (by omega), Int.tmod_eq_emod_of_nonneg (by omega), next_mod, wl (a := S * (q + m) + S) (by omega) (by omega)]
    have ih' := ih k S q l nm (m + 1) m0 ho hq hb (by omega) h16 (by omega) hit0 hno
    rw [show q + ((m + 1 : Nat) : Int) = q + (m : Int) + 1 by omega, show S * (q + (m : Int) + 1) = S * (q + m) + S by rw [Int.mul_add]; omega] at ih'
    exact ih'
/-- his next turn begins: the least number of turns from now on -/
def isNext (l : List ByteArray) (nm : ByteArray) (q : Int) (m0 : Nat) : Prop := m0 < l.length ∧ hit l nm ((q + m0) % l.length) ∧ ∀ i, i < m0 → ¬ hit l nm ((q + i) % l.length)
theorem has_next {l : List ByteArray} {nm : ByteArray} {q : Int} (hl : 1 ≤ l.length) (h : inR l nm) : ∃ m0, isNext l nm q m0 := by
  obtain ⟨j, hj, hh⟩ := h
  have hr := mod_in (l := l) hl ((j : Int) - q)
  obtain ⟨n, hn⟩ : ∃ n : Nat, (n : Int) = ((j : Int) - q) % l.length := ⟨(((j : Int) - q) % l.length).toNat, by omega⟩
  have e : (q + (n : Int)) % l.length = j := by
    rw [hn, Int.add_emod_emod, show q + ((j : Int) - q) = j by omega]
    exact Int.emod_eq_of_lt (by omega) (by omega)
  obtain ⟨m, h1, h2, h3⟩ := first_hit (fun i => hit l nm ((q + (i : Int)) % l.length)) n (by show hit l nm _; rw [e]; exact hh)
  exact ⟨m, by omega, h2, h3⟩
theorem no_hit {l : List ByteArray} {nm : ByteArray} (hl : 1 ≤ l.length) (h : ¬ inR l nm) (a : Int) : ¬ hit l nm (a % l.length) := by
  intro g
  have hr := mod_in (l := l) hl a
  refine h ⟨(a % (l.length : Int)).toNat, by omega, ?_⟩
  rw [Int.toNat_of_nonneg hr.1]; exact g
/-- when his next turn is -/
theorem next_bad (k : Nat) (hk : 40 ≤ k) (S : Int) (l : List ByteArray) (nm : ByteArray) (t : Int) (ht : R64 t) (h : ¬ goodR S l t) : slot_Next.f k S l nm t = some (0, some 1) := by
  unfold slot_Next.f
  rw [at_at k (by omega) S l t ht, if_neg h]
  simp
theorem next_none (k : Nat) (hk : 40 ≤ k) (S : Int) (l : List ByteArray) (nm : ByteArray) (t : Int) (ht : R64 t) (h : goodR S l t) (hn : nm.toList = [] ∨ ¬ inR l nm) : slot_Next.f k S l nm t = some (0, some 6) := by
  obtain ⟨k, rfl⟩ : ∃ m, k = m + 1 := ⟨k - 1, by omega⟩
  have hh := h.1
  unfold okR at hh
  unfold slot_Next.f
  rw [at_at _ (by omega) S l t ht, if_pos h]
  simp only [Option.bind_some, Option.isNone_none, if_true]
  by_cases h0 : nm.toList = []
  · rw [if_pos h0]; simp [slot_Next.j0]
  · rw [if_neg h0]
    obtain ⟨b, e, hb⟩ := contains_at (k + 1) l nm (by omega) (by omega)
    have hf : b = false := by
      cases b with
      | false => rfl
      | true => rcases hn with hn | hn; exact absurd hn h0; exact absurd (hb.1 rfl) hn
    rw [e, hf]
    simp [slot_Next.j0]
theorem next_some (k : Nat) (hk : 40 ≤ k) (S : Int) (l : List ByteArray) (nm : ByteArray) (t : Int) (ht : R64 t) (h : goodR S l t) (hn : nm.toList ≠ []) (hi : inR l nm) (m0 : Nat) (hm : isNext l nm (t / S) m0) : slot_Next.f k S l nm t = some (if m0 = 0 then t else S * (t / S + m0), none) := by
  obtain ⟨k, rfl⟩ : ∃ m, k = m + 2 := ⟨k - 2, by omega⟩
  have hh := h.1
  unfold okR at hh
  have ht2 := h.2
  obtain ⟨h1, h2, h3⟩ := hm
  unfold slot_Next.f
  rw [at_at _ (by omega) S l t ht, if_pos h]
  simp only [Option.bind_some, Option.isNone_none, if_true]
  rw [if_neg hn]
  obtain ⟨b, e, hb⟩ := contains_at (k + 2) l nm (by omega) (by omega)
  rw [e, hb.2 hi]
  obtain ⟨q0, q1, q2, q3⟩ := q_of hh.1 ht2.1
  have q4 : 0 ≤ S * (t / S) := Int.mul_nonneg (by omega) q0
  have hr := mod_in (l := l) (by omega) (t / S)
  simp only [Option.bind_some, slot_Next.j0]
  rw [if_neg (by simp), if_pos hr.1, if_pos hr.2]
  by_cases h0 : m0 = 0
  · subst h0
    rw [if_pos (by have := h2; simpa [hit] using this), if_pos rfl]
  · have hx := h3 0 (by omega)
    rw [if_neg (by simpa [hit] using hx), if_neg h0, q3, wl (by omega) (by omega)]
    have := nx_loop m0 (k + 1) S (t / S) l nm 0 m0 h.1 q0 (by omega) (by omega) (by omega) (by omega) h2 h3
    rw [show t - (t - S * (t / S)) = S * (t / S) by omega]
    simpa using this
theorem sure_at (k : Nat) (hk : 40 ≤ k) : fuseelaw35_sure.f k = some true :=
  at_rounds (g := fuseelaw35_sure.f) (fun k => fuseelaw35_sure.mono k) hk (by decide +kernel)

theorem div_step {T S : Int} (h0 : 0 ≤ T) (h1 : 1 ≤ S) : (T % S + 1 < S ∧ (T + 1) / S = T / S ∧ (T + 1) % S = T % S + 1) ∨ (T % S + 1 = S ∧ (T + 1) / S = T / S + 1 ∧ (T + 1) % S = 0) := by
  obtain ⟨q0, q1, q2, q3⟩ := q_of h1 h0
  by_cases h : T % S + 1 < S
  · have := (Int.ediv_emod_unique (a := T + 1) (b := S) (q := T / S) (r := T % S + 1) (by omega)).2 ⟨by omega, by omega, h⟩
    exact Or.inl ⟨h, this.1, this.2⟩
  · have := (Int.ediv_emod_unique (a := T + 1) (b := S) (q := T / S + 1) (r := 0) (by omega)).2 ⟨by rw [Int.mul_add]; omega, by omega, by omega⟩
    exact Or.inr ⟨by omega, this.1, this.2⟩
/-- is it his turn then? -/
def on (S : Int) (l : List ByteArray) (nm : ByteArray) (T : Int) : Prop := hit l nm (T / S % l.length)
instance (S : Int) (l : List ByteArray) (nm : ByteArray) (T : Int) : Decidable (on S l nm T) := by unfold on; infer_instance
/-- what he had before a turn, and before a step -/
def G (S : Int) (l : List ByteArray) (nm : ByteArray) (Q : Int) : Int := (Q / l.length) * (S * (cnt l nm l.length : Int)) + S * (cnt l nm (Q % l.length).toNat : Int)
def F (S : Int) (l : List ByteArray) (nm : ByteArray) (T : Int) : Int := G S l nm (T / S) + if on S l nm T then T % S else 0
theorem cnt_next (l : List ByteArray) (nm : ByteArray) (S : Int) (i : Int) (h0 : 0 ≤ i) : S * (cnt l nm (i + 1).toNat : Int) = S * (cnt l nm i.toNat : Int) + if hit l nm i then S else 0 := by
  obtain ⟨n, rfl⟩ := Int.eq_ofNat_of_zero_le h0
  rw [show ((n : Int) + 1).toNat = n + 1 by omega, Int.toNat_natCast, cnt]
  by_cases h : hit l nm (n : Int)
  · rw [if_pos h, if_pos h, Int.natCast_add, Int.mul_add]; simp
  · rw [if_neg h, if_neg h, Nat.add_zero]; omega
theorem G_step {S : Int} {l : List ByteArray} (nm : ByteArray) {Q : Int} (hq : 0 ≤ Q) (hl : 1 ≤ l.length) : G S l nm (Q + 1) = G S l nm Q + if hit l nm (Q % l.length) then S else 0 := by
  have hr := mod_in (l := l) hl Q
  have cn := cnt_next l nm S (Q % l.length) hr.1
  unfold G
  rcases div_step (T := Q) (S := (l.length : Int)) hq (by omega) with ⟨h, e1, e2⟩ | ⟨h, e1, e2⟩
  · rw [e1, e2, cn]; omega
  · rw [e1, e2, Int.add_mul]
    rw [h, Int.toNat_natCast] at cn
    rw [show (cnt l nm (Int.toNat 0) : Int) = 0 from rfl, Int.mul_zero, cn]; omega
theorem F_step {S : Int} {l : List ByteArray} (nm : ByteArray) {T : Int} (h0 : 0 ≤ T) (h1 : 1 ≤ S) (hl : 1 ≤ l.length) : F S l nm (T + 1) = F S l nm T + if on S l nm T then 1 else 0 := by
  have hq := Int.ediv_nonneg h0 (show 0 ≤ S by omega)
  have g := G_step (S := S) nm hq hl
  unfold F
  rcases div_step (T := T) (S := S) h0 h1 with ⟨h, e1, e2⟩ | ⟨h, e1, e2⟩
  · have : on S l nm (T + 1) ↔ on S l nm T := by unfold on; rw [e1]
    rw [e1, e2]
    by_cases c : on S l nm T
    · rw [if_pos (this.2 c), if_pos c, if_pos c]; omega
    · rw [if_neg (fun x => c (this.1 x)), if_neg c, if_neg c]; omega
  · rw [e1, e2, g, ite_self]
    by_cases c : on S l nm T
    · rw [if_pos c, if_pos c, if_pos (show hit l nm (T / S % l.length) from c)]; omega
    · rw [if_neg c, if_neg c, if_neg (show ¬ hit l nm (T / S % l.length) from c)]
theorem F_round {S : Int} {l : List ByteArray} (nm : ByteArray) {T : Int} (h0 : 0 ≤ T) (h1 : 1 ≤ S) (hl : 1 ≤ l.length) : F S l nm (T + S * (l.length : Int)) = F S l nm T + S * (cnt l nm l.length : Int) := by
  have e1 : (T + S * (l.length : Int)) / S = T / S + l.length := Int.add_mul_ediv_left _ _ (by omega)
  have e2 : (T + S * (l.length : Int)) % S = T % S := Int.add_mul_emod_self_left _ _ _
  have e3 : (T / S + (l.length : Int)) / l.length = T / S / l.length + 1 := Int.add_ediv_of_dvd_right (Int.dvd_refl _) |>.trans (by rw [Int.ediv_self (by omega)])
  have e4 : (T / S + (l.length : Int)) % l.length = T / S % l.length := Int.add_emod_right _ _
  have : on S l nm (T + S * (l.length : Int)) ↔ on S l nm T := by unfold on; rw [e1, e4]
  unfold F G
  rw [e1, e2, e3, e4, Int.add_mul]
  by_cases c : on S l nm T
  · rw [if_pos (this.2 c), if_pos c]; omega
  · rw [if_neg (fun x => c (this.1 x)), if_neg c]; omega
/-- between now and his next turn it is not his turn -/
theorem next_on {S : Int} {l : List ByteArray} {nm : ByteArray} {a : Int} (ho : okR S l) (h0 : 0 ≤ a) {m0 : Nat} (hm : isNext l nm (a / S) m0) :
    on S l nm (if m0 = 0 then a else S * (a / S + m0)) ∧ a ≤ (if m0 = 0 then a else S * (a / S + m0)) ∧ (if m0 = 0 then a else S * (a / S + m0)) < a + S * (l.length : Int) ∧ ∀ j, a ≤ j → j < (if m0 = 0 then a else S * (a / S + m0)) → ¬ on S l nm j := by
  have hh := ho
  unfold okR at hh
  obtain ⟨q0, q1, q2, q3⟩ := q_of hh.1 h0
  have hb : 1 ≤ S * (l.length : Int) := by
    have : S * 1 ≤ S * (l.length : Int) := Int.mul_le_mul_of_nonneg_left (by omega) (by omega)
    omega
  by_cases h : m0 = 0
  · subst h
    rw [if_pos rfl]
    exact ⟨by have := hm.2.1; simpa [on] using this, by omega, by omega, fun j h1 h2 => by omega⟩
  · rw [if_neg h]
    have e : S * (a / S + m0) = S * (a / S) + S * m0 := Int.mul_add _ _ _
    have b1 : S * 1 ≤ S * (m0 : Int) := Int.mul_le_mul_of_nonneg_left (by omega) (by omega)
    have b2 : S * ((m0 : Int) + 1) ≤ S * (l.length : Int) := Int.mul_le_mul_of_nonneg_left (by have := hm.1; omega) (by omega)
    rw [Int.mul_add] at b2
    refine ⟨?_, by omega, by omega, fun j h1 h2 => ?_⟩
    · unfold on
      rw [Int.mul_ediv_cancel_left _ (by omega)]; exact hm.2.1
    · have c1 : a / S ≤ j / S := Int.ediv_le_ediv (by omega) h1
      have c2 : j / S < a / S + m0 := Int.ediv_lt_of_lt_mul (by omega) (by rw [Int.mul_comm]; exact h2)
      have := hm.2.2 (j / S - a / S).toNat (by omega)
      unfold on
      rwa [show a / S + (((j / S - a / S).toNat : Nat) : Int) = j / S by omega] at this
/-- what the round has told so far -/
def Inv (S : Int) (l : List ByteArray) (nm : ByteArray) (a : Int) (i : Nat) (x8 x10 : Int) : Prop :=
  x8 = F S l nm (a + i) - F S l nm a ∧ 0 ≤ x8 ∧ x8 ≤ i ∧ ((x10 = -1 ∧ x8 = 0 ∧ ∀ j, a ≤ j → j < a + i → ¬ on S l nm j) ∨ (a ≤ x10 ∧ x10 < a + i ∧ on S l nm x10 ∧ ∀ j, a ≤ j → j < x10 → ¬ on S l nm j))
theorem rend (k : Nat) (hk : 100 ≤ k) (S : Int) (l : List ByteArray) (nm : ByteArray) (a : Int) (ho : okR S l) (h20 : S ≤ 20) (h0 : 0 ≤ a) (h4 : a < 4294967296) (hn : nm.toList ≠ []) (N : Nat) (hN : (N : Int) = S * (l.length : Int)) (x8 x10 x9 x11 : Int) (hI : Inv S l nm a N x8 x10) :
    fuseelaw35_SlotRound.j2 (k + 1) nm a x8 x9 x10 x11 false S l = some true := by
  have hh := ho
  unfold okR at hh
  have hg : goodR S l a := ⟨ho, h0, by omega⟩
  have ht : R64 a := by unfold R64; omega
  obtain ⟨e8, p8, l8, hI⟩ := hI
  rw [hN, F_round nm h0 hh.1 hh.2.2.1] at e8
  simp only [fuseelaw35_SlotRound.j2]
  rw [if_neg (by simp), wl (by omega) (by omega)]
  rcases hI with ⟨e10, z8, hno⟩ | ⟨c1, c2, c3, c4⟩
  · have hi : ¬ inR l nm := by
      intro g
      obtain ⟨m0, hm⟩ := has_next (q := a / S) hh.2.2.1 g
      obtain ⟨o1, o2, o3, _⟩ := next_on ho h0 hm
      exact hno _ o2 (by omega) o1
    rw [next_none k (by omega) S l nm a ht hg (Or.inr hi)]
    simp only [Option.bind_some, fuseelaw35_num.f, numE]
    rw [if_pos (by omega), if_pos trivial, share_at k (by omega), if_pos ⟨ho, hn⟩]
    simp only [Option.bind_some]
    rw [if_pos (by omega), sure_at k (by omega)]; rfl
  · have hi : inR l nm := by
      have hr := mod_in (l := l) hh.2.2.1 (x10 / S)
      refine ⟨(x10 / S % (l.length : Int)).toNat, by omega, ?_⟩
      rw [Int.toNat_of_nonneg hr.1]; exact c3
    obtain ⟨m0, hm⟩ := has_next (q := a / S) hh.2.2.1 hi
    obtain ⟨o1, o2, o3, o4⟩ := next_on ho h0 hm
    have same : (if m0 = 0 then a else S * (a / S + m0)) = x10 := by
      rcases Int.lt_trichotomy (if m0 = 0 then a else S * (a / S + m0)) x10 with g | g | g
      · exact absurd o1 (c4 _ o2 g)
      · exact g
      · exact absurd c3 (o4 _ c1 g)
    rw [next_some k (by omega) S l nm a ht hg hn hi m0 hm, same]
    simp only [Option.bind_some, Option.isNone_none, if_true]
    rw [if_neg (by omega), share_at k (by omega), if_pos ⟨ho, hn⟩]
    simp only [Option.bind_some]
    rw [if_pos (by omega), sure_at k (by omega)]; rfl
theorem rloop (S : Int) (l : List ByteArray) (nm : ByteArray) (a : Int) (ho : okR S l) (h20 : S ≤ 20) (h0 : 0 ≤ a) (h4 : a < 4294967296) (hn : nm.toList ≠ []) (N : Nat) (hN : (N : Int) = S * (l.length : Int)) (hN4 : N < 400) :
    ∀ (d k : Nat) (i : Nat) (x8 x10 : Int), i + d = N → 3 * d + 200 ≤ k → Inv S l nm a i x8 x10 →
    fuseelaw35_SlotRound.l0 k nm a x8 N x10 i S l = some true := by
  have hh := ho
  unfold okR at hh
  intro d
  induction d with
  | zero =>
    intro k i x8 x10 hd hk hI
    obtain ⟨k, rfl⟩ : ∃ m, k = m + 2 := ⟨k - 2, by omega⟩
    obtain rfl : i = N := by omega
    rw [fuseelaw35_SlotRound.l0, if_neg (by omega)]
    exact rend k (by omega) S l nm a ho h20 h0 h4 hn i hN x8 x10 _ _ hI
  | succ d ih =>
    intro k i x8 x10 hd hk hI
    obtain ⟨k, rfl⟩ : ∃ m, k = m + 3 := ⟨k - 3, by omega⟩
    have hg : goodR S l (a + i) := ⟨ho, by omega, by omega⟩
    obtain ⟨e8, p8, l8, hI⟩ := hI
    have fs := F_step (S := S) nm (T := a + i) (by omega) hh.1 hh.2.2.1
    rw [fuseelaw35_SlotRound.l0, if_pos (by omega), decide_eq_true (by omega)]
    simp only [fuseelaw35_SlotRound.j2]
    rw [if_pos trivial, wl (a := a) (by omega) (by omega), wl (a := a + (i : Int)) (by omega) (by omega), who_at _ (by omega) S l _ (by unfold R64; omega), if_pos hg]
    simp only [Option.bind_some, Option.isNone_none, if_true]
    by_cases c : on S l nm (a + i)
    · rw [if_pos c] at fs
      rw [if_pos (hit_eq c), show (nm.toList != ([] : List UInt8)) = true from bne_iff_ne.2 hn]
      simp only [fuseelaw35_SlotRound.j3]
      rw [if_pos trivial, wl (a := x8 + 1) (by omega) (by omega), wl (a := (i : Int) + 1) (by omega) (by omega)]
      rcases hI with ⟨e10, z8, hno⟩ | ⟨c1, c2, c3, c4⟩
      · rw [if_pos (by omega), wl (a := a) (by omega) (by omega), wl (a := a + (i : Int)) (by omega) (by omega)]
        refine ih k (i + 1) (x8 + 1) (a + i) (by omega) (by omega) ⟨?_, by omega, by omega, Or.inr ⟨by omega, by omega, c, fun j g1 g2 => hno j g1 g2⟩⟩
        rw [show a + ((i + 1 : Nat) : Int) = a + i + 1 by omega, fs]; omega
      · rw [if_neg (by omega)]
        refine ih k (i + 1) (x8 + 1) x10 (by omega) (by omega) ⟨?_, by omega, by omega, Or.inr ⟨c1, by omega, c3, c4⟩⟩
        rw [show a + ((i + 1 : Nat) : Int) = a + i + 1 by omega, fs]; omega
    · rw [if_neg c] at fs
      rw [if_neg (hit_ne c)]
      simp only [fuseelaw35_SlotRound.j3]
      rw [if_neg (by simp), wl (a := (i : Int) + 1) (by omega) (by omega)]
      refine ih k (i + 1) x8 x10 (by omega) (by omega) ⟨?_, by omega, by omega, ?_⟩
      · rw [show a + ((i + 1 : Nat) : Int) = a + i + 1 by omega, fs]; omega
      · rcases hI with ⟨e10, z8, hno⟩ | ⟨c1, c2, c3, c4⟩
        · refine Or.inl ⟨e10, z8, fun j g1 g2 => ?_⟩
          by_cases g : j < a + i
          · exact hno j g1 g
          · obtain rfl : j = a + i := by omega
            exact c
        · exact Or.inr ⟨c1, by omega, c3, c4⟩
theorem nobody (S : Int) (l : List ByteArray) (nm : ByteArray) (a : Int) (ho : okR S l) (h20 : S ≤ 20) (h0 : 0 ≤ a) (h4 : a < 4294967296) (hn : nm.toList = []) (N : Nat) (hN4 : N < 400) :
    ∀ (d k : Nat) (i : Nat), i + d = N → 3 * d + 200 ≤ k → fuseelaw35_SlotRound.l0 k nm a 0 N (-1) i S l = some true := by
  have hh := ho
  unfold okR at hh
  intro d
  induction d with
  | zero =>
    intro k i hd hk
    obtain ⟨k, rfl⟩ : ∃ m, k = m + 2 := ⟨k - 2, by omega⟩
    obtain rfl : i = N := by omega
    have hg : goodR S l a := ⟨ho, h0, by omega⟩
    rw [fuseelaw35_SlotRound.l0, if_neg (by omega)]
    simp only [fuseelaw35_SlotRound.j2]
    rw [if_neg (by simp), wl (by omega) (by omega), next_none k (by omega) S l nm a (by unfold R64; omega) hg (Or.inl hn)]
    simp only [Option.bind_some, fuseelaw35_num.f, numE]
    rw [if_pos (by omega), if_pos trivial, share_at k (by omega), if_neg (show ¬ (okR S l ∧ nm.toList ≠ []) from fun g => g.2 hn)]
    simp only [Option.bind_some, if_true]
    rw [sure_at k (by omega)]; rfl
  | succ d ih =>
    intro k i hd hk
    obtain ⟨k, rfl⟩ : ∃ m, k = m + 3 := ⟨k - 3, by omega⟩
    have hg : goodR S l (a + i) := ⟨ho, by omega, by omega⟩
    have J : fuseelaw35_SlotRound.j3 (k + 1) nm a 0 N (-1) i false S l = some true := by
      simp only [fuseelaw35_SlotRound.j3]
      rw [if_neg (by simp), wl (a := (i : Int) + 1) (by omega) (by omega)]
      exact ih k (i + 1) (by omega) (by omega)
    rw [fuseelaw35_SlotRound.l0, if_pos (by omega), decide_eq_true (by omega)]
    simp only [fuseelaw35_SlotRound.j2]
    rw [if_pos trivial, wl (a := a) (by omega) (by omega), wl (a := a + (i : Int)) (by omega) (by omega), who_at _ (by omega) S l _ (by unfold R64; omega), if_pos hg]
    simp only [Option.bind_some, Option.isNone_none, if_true]
    rw [show (nm.toList != ([] : List UInt8)) = false by rw [hn]; rfl]
    split <;> exact J
theorem done (S : Int) (l : List ByteArray) (nm : ByteArray) (t : Int) (hS : (Lit.int .i64 S).wf = true) (hm : l.length ≤ maxLen) (wl0 : ∀ x ∈ l, x.size ≤ maxLen) (hn : nm.size ≤ 140737488351232) (ht : (Lit.int .u32 t).wf = true) : ∃ k, fuseelaw35_SlotRound.f k S l nm t = some true := by
  refine ⟨2000, ?_⟩
  have hb := bounds_u32 ht
  unfold fuseelaw35_SlotRound.f
  have J : fuseelaw35_SlotRound.j0 2000 nm t true S l S l = some true := by
    simp only [fuseelaw35_SlotRound.j0, if_true]
    rw [sure_at _ (by omega)]; rfl
  by_cases h : (l.length : Int) > 40
  · rw [if_pos h]; exact J
  · rw [if_neg h]
    by_cases h1 : (nm.size : Int) > 12
    · rw [if_pos h1]; exact J
    · rw [if_neg h1, scheck_at _ (by omega)]
      simp only [Option.bind_some]
      by_cases ho : okR S l
      · rw [if_pos ho]
        simp only [Option.isNone_none, if_true]
        by_cases h2 : S > 20
        · rw [decide_eq_true h2]; exact J
        · rw [decide_eq_false h2]
          have hh := ho
          unfold okR at hh
          simp only [fuseelaw35_SlotRound.j0]
          have b1 : 0 ≤ S * (l.length : Int) ∧ S * (l.length : Int) ≤ 20 * 16 := ⟨Int.mul_nonneg (by omega) (by omega), Int.mul_le_mul (by omega) (by omega) (by omega) (by omega)⟩
          obtain ⟨N, hN⟩ := Int.eq_ofNat_of_zero_le b1.1
          rw [if_neg (by simp), wl (by omega) (by omega), hN]
          by_cases hn : nm.toList = []
          · exact nobody S l nm t ho (by omega) hb.1 (by omega) hn N (by omega) N _ 0 (by omega) (by omega)
          · exact rloop S l nm t ho (by omega) hb.1 (by omega) hn N hN.symm (by omega) N _ 0 0 (-1) (by omega) (by omega) ⟨by simp, by omega, by omega, Or.inl ⟨rfl, rfl, fun j g1 g2 => by omega⟩⟩
      · rw [if_neg ho]
        simp only [Option.isNone_some, Bool.false_eq_true, if_false]
        exact J
end Go.Proofs.YtnlaiiophongmaaDoor.MSlotRound
