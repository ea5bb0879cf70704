/-
  SlotTells in plain numbers.
-/
import Derived.Test.YtnlaiiophongmaaDoorK
import Derived.Test.YtnlaiiophongmaaDoorMath
import Derived.Test.YtnlaiiophongmaaDoorMSlotTellsx
namespace Go.Proofs.YtnlaiiophongmaaDoor.MSlotTells
open Go.RowKit Go.Proofs.YtnlaiiophongmaaDoorW.PrintWords Go.Proofs.YtnlaiiophongmaaDoorW.PrintMore
set_option linter.unusedVariables false
set_option linter.unusedSimpArgs false

/-- the printed error is the error as a value -/
theorem errW_errV (o : Option Int) : errW o = errV o := by cases o <;> rfl
theorem pDiv (a b : Int) (ha : R64 a) (hb : R64 b) (h : 1 ≤ b) : num_Div.f a b = some (a / b, a % b, none) := by
  unfold num_Div.f
  have hr0 := Int.emod_nonneg a (show b ≠ 0 by omega)
  have hr1 := Int.emod_lt_of_pos a (show 0 < b by omega)
  have hq := div_bounds ha h
  have ht := (tdiv_range ha h).wrap
  rw [if_neg (by omega), if_neg (by omega), ht]
  rcases Int.lt_or_le a 0 with h0 | h0
  · have e1 := tdiv_neg h0 h
    have e2 := tmod_neg h0 h
    by_cases hz : a % b = 0
    · rw [if_pos hz] at e1 e2
      rw [if_neg (by omega), e1, e2]; simp
    · rw [if_neg hz] at e1 e2
      rw [if_pos (by omega), e1, e2, R64.wrap (by simpa using hq.1), R64.wrap (by unfold R64 at *; omega)]; simp
  · rw [Int.tmod_eq_emod_of_nonneg h0, tdiv_of_nonneg h0, if_neg (by omega)]
theorem pDivBad (a b : Int) (h : b < 1) : num_Div.f a b = some (0, 0, some 1) := by unfold num_Div.f; rw [if_pos h]

/-- a round that may be -/
def okR (S : Int) (l : List ByteArray) : Prop := 1 ≤ S ∧ S ≤ 1073741824 ∧ 1 ≤ l.length ∧ l.length ≤ 16 ∧ ∀ s ∈ l, s.size ≤ 12
instance (S : Int) (l : List ByteArray) : Decidable (okR S l) := by unfold okR; infer_instance
theorem rdO_mem {l : List ByteArray} {i : Int} (h0 : 0 ≤ i) (h : i < l.length) : rdOf ByteArray.empty l i ∈ l := by
  unfold rdOf
  have hn : i.toNat < l.length := by omega
  simp only [List.getD_eq_getElem?_getD, List.getElem?_eq_getElem hn, Option.getD_some]
  exact List.getElem_mem hn
theorem mem_rdO {l : List ByteArray} {s : ByteArray} (h : s ∈ l) : ∃ i : Nat, i < l.length ∧ rdOf ByteArray.empty l i = s := by
  obtain ⟨i, hi, e⟩ := List.getElem_of_mem h
  refine ⟨i, hi, ?_⟩
  unfold rdOf
  simp only [Int.toNat_natCast, List.getD_eq_getElem?_getD, List.getElem?_eq_getElem hi, Option.getD_some, e]
theorem wl {a : Int} (h0 : 0 ≤ a) (h : a < 9223372036854775807) : wrap64 a = a := R64.wrap (by unfold R64; omega)
theorem long_at : ∀ (d k : Nat) (l : List ByteArray) (i : Nat), l.length - i = d → i ≤ l.length → d + 1 ≤ k → l.length ≤ 1000 →
    ∃ r, slices_IndexFunc_string_string_108_at70.l0 k l (l.length : Int) i = some r ∧ (0 ≤ r ↔ ∃ j : Nat, i ≤ j ∧ j < l.length ∧ 12 < (rdOf ByteArray.empty l j).size) := by
  intro d
  induction d with
  | zero =>
    intro k l i hd hi hk hl
    obtain ⟨k, rfl⟩ : ∃ m, k = m + 1 := ⟨k - 1, by omega⟩
    refine ⟨-1, ?_, ?_⟩
    · rw [slices_IndexFunc_string_string_108_at70.l0, if_neg (by omega)]
    · constructor
      · intro h; omega
      · rintro ⟨j, h1, h2, _⟩; omega
  | succ d ih =>
    intro k l i hd hi hk hl
    obtain ⟨k, rfl⟩ : ∃ m, k = m + 1 := ⟨k - 1, by omega⟩
    rw [slices_IndexFunc_string_string_108_at70.l0, if_pos (by omega), if_pos (by omega), if_pos (by omega)]
    unfold slot_Check_1.f
    simp only [Option.bind_some, decide_eq_true_eq]
    by_cases h : ((rdOf ByteArray.empty l (i : Int)).size : Int) > 12
    · rw [if_pos h]
      exact ⟨_, rfl, ⟨fun _ => ⟨i, Nat.le_refl _, by omega, by omega⟩, fun _ => by omega⟩⟩
    · rw [if_neg h, wl (by omega) (by omega)]
      obtain ⟨r, e, hr⟩ := ih k l (i + 1) (by omega) (by omega) (by omega) hl
      refine ⟨r, e, hr.trans ⟨?_, ?_⟩⟩
      · rintro ⟨j, h1, h2, h3⟩; exact ⟨j, by omega, h2, h3⟩
      · rintro ⟨j, h1, h2, h3⟩
        rcases Nat.eq_or_lt_of_le h1 with e2 | e2
        · subst e2; omega
        · exact ⟨j, e2, h2, h3⟩
theorem has_long_at (k : Nat) (l : List ByteArray) (hk : l.length + 1 ≤ k) (hl : l.length ≤ 1000) : slices_ContainsFunc_string_string_69_at70.f k l = some (decide (¬ ∀ s ∈ l, s.size ≤ 12)) := by
  unfold slices_ContainsFunc_string_string_69_at70.f slices_IndexFunc_string_string_108_at70.f
  obtain ⟨r, e, hr⟩ := long_at l.length k l 0 (by omega) (by omega) hk hl
  rw [show ((0 : Int)) = ((0 : Nat) : Int) from rfl, e]
  simp only [Option.bind_some]
  congr 1
  rw [decide_eq_decide]
  refine hr.trans ⟨?_, ?_⟩
  · rintro ⟨j, _, h2, h3⟩ hall
    have := hall _ (rdO_mem (l := l) (i := (j : Int)) (by omega) (by omega)); omega
  · intro h
    simp only [Classical.not_forall] at h
    obtain ⟨s, hs, hx⟩ := h
    obtain ⟨i, hi, e⟩ := mem_rdO hs
    exact ⟨i, Nat.zero_le _, hi, by rw [e]; omega⟩
theorem scheck_at (k : Nat) (hk : 20 ≤ k) (S : Int) (l : List ByteArray) : slot_Check.f k S l = some (if okR S l then none else some 1) := by
  obtain ⟨k, rfl⟩ : ∃ m, k = m + 1 := ⟨k - 1, by omega⟩
  have bad : ¬ okR S l → slot_Check.j0 (k + 1) true S l = some (if okR S l then none else some 1) := by
    intro h; rw [if_neg h]; simp [slot_Check.j0]
  unfold slot_Check.f
  by_cases h1 : S < 1
  · rw [if_pos h1]; exact bad (by unfold okR; omega)
  rw [if_neg h1]
  by_cases h2 : S > 1073741824
  · rw [if_pos h2]; exact bad (by unfold okR; omega)
  rw [if_neg h2]
  by_cases h3 : (l.length : Int) < 1
  · rw [if_pos h3]; exact bad (by unfold okR; omega)
  rw [if_neg h3]
  by_cases h4 : (l.length : Int) > 16
  · rw [decide_eq_true h4]; exact bad (by unfold okR; omega)
  rw [decide_eq_false h4]
  simp only [slot_Check.j0]
  rw [if_neg (by simp), has_long_at k l (by omega) (by omega)]
  simp only [Option.bind_some, decide_eq_true_eq]
  by_cases h5 : ∀ s ∈ l, s.size ≤ 12
  · rw [if_neg (fun h => h h5), if_pos (show okR S l from ⟨by omega, by omega, by omega, by omega, h5⟩)]
  · rw [if_pos h5, if_neg (show ¬ okR S l from fun h => h5 h.2.2.2.2)]
/-- whose turn it is, and how far within it -/
def goodR (S : Int) (l : List ByteArray) (t : Int) : Prop := okR S l ∧ 0 ≤ t ∧ t ≤ 1152921504606846976
instance (S : Int) (l : List ByteArray) (t : Int) : Decidable (goodR S l t) := by unfold goodR; infer_instance
theorem at_at (k : Nat) (hk : 21 ≤ k) (S : Int) (l : List ByteArray) (t : Int) (ht : R64 t) : slot_at.f k S l t = some (if goodR S l t then (t / S % l.length, t % S, none) else (0, 0, some 1)) := by
  obtain ⟨k, rfl⟩ : ∃ m, k = m + 1 := ⟨k - 1, by omega⟩
  have bad : ¬ goodR S l t → slot_at.j0 (k + 1) t true S l = some (if goodR S l t then (t / S % l.length, t % S, none) else (0, 0, some 1)) := by
    intro h; rw [if_neg h]; simp [slot_at.j0]
  unfold slot_at.f
  rw [scheck_at _ (by omega)]
  simp only [Option.bind_some]
  by_cases h : okR S l
  · rw [if_pos h]
    simp only [Option.isNone_none, if_true]
    by_cases h1 : t < 0
    · rw [if_pos h1]; exact bad (fun g => by have := g.2.1; omega)
    rw [if_neg h1]
    by_cases h2 : t > 1152921504606846976
    · rw [decide_eq_true h2]; exact bad (fun g => by have := g.2.2; omega)
    rw [decide_eq_false h2]
    have hh := h
    unfold okR at hh
    simp only [slot_at.j0]
    rw [if_neg (by simp), pDiv t S ht (by unfold R64; omega) (by omega), if_pos (show goodR S l t from ⟨h, by omega, by omega⟩)]
    simp only [Option.bind_some, Option.isNone_none, if_true]
    have hq : 0 ≤ t / S := Int.ediv_nonneg (by omega) (by omega)
    rw [if_neg (by omega), Int.tmod_eq_emod_of_nonneg hq]
  · rw [if_neg h]
    simp only [Option.isNone_some, Bool.false_eq_true, if_false]
    exact bad (fun g => h g.1)
theorem who_at (k : Nat) (hk : 21 ≤ k) (S : Int) (l : List ByteArray) (t : Int) (ht : R64 t) : slot_Who.f k S l t = some (if goodR S l t then (rdOf ByteArray.empty l (t / S % l.length), none) else ((⟨#[]⟩ : ByteArray), some 1)) := by
  unfold slot_Who.f
  rw [at_at k hk S l t ht]
  simp only [Option.bind_some]
  by_cases h : goodR S l t
  · rw [if_pos h, if_pos h]
    have hl := h.1.2.2.1
    have a0 := Int.emod_nonneg (t / S) (show (l.length : Int) ≠ 0 by omega)
    have a1 := Int.emod_lt_of_pos (t / S) (show (0 : Int) < l.length by omega)
    simp only [Option.isNone_none, if_true]
    rw [if_pos a0, if_pos a1]
  · rw [if_neg h, if_neg h]; simp
theorem left_at (k : Nat) (hk : 21 ≤ k) (S : Int) (l : List ByteArray) (t : Int) (ht : R64 t) : slot_Left.f k S l t = some (if goodR S l t then (S - t % S, none) else (0, some 1)) := by
  unfold slot_Left.f
  rw [at_at k hk S l t ht]
  simp only [Option.bind_some]
  by_cases h : goodR S l t
  · rw [if_pos h, if_pos h]
    have h1 := h.1.1; have h2 := h.1.2.1
    have a0 := Int.emod_nonneg t (show S ≠ 0 by omega)
    have a1 := Int.emod_lt_of_pos t (show 0 < S by omega)
    simp only [Option.isNone_none, if_true]
    rw [wl (by omega) (by omega)]
  · rw [if_neg h, if_neg h]; simp
/-- is it his turn? -/
def hit (l : List ByteArray) (nm : ByteArray) (j : Int) : Prop := (rdOf ByteArray.empty l j).toList = nm.toList
instance (l : List ByteArray) (nm : ByteArray) (j : Int) : Decidable (hit l nm j) := by unfold hit; infer_instance
theorem hit_eq {l : List ByteArray} {nm : ByteArray} {j : Int} (h : hit l nm j) : (rdOf ByteArray.empty l j).toList = nm.toList := h
theorem hit_ne {l : List ByteArray} {nm : ByteArray} {j : Int} (h : ¬ hit l nm j) : ¬ ((rdOf ByteArray.empty l j).toList = nm.toList) := h
theorem first_hit (p : Nat → Prop) [∀ i, Decidable (p i)] : ∀ n : Nat, p n → ∃ m, m ≤ n ∧ p m ∧ ∀ i, i < m → ¬ p i
  | 0, h => ⟨0, Nat.le_refl _, h, fun i hi => by omega⟩
  | n + 1, h => by
    by_cases e : ∃ i, i ≤ n ∧ p i
    · obtain ⟨i, hi, hp⟩ := e
      have : ∀ j, j ≤ n → p j → ∃ m, m ≤ j ∧ p m ∧ ∀ i, i < m → ¬ p i := by
        intro j
        induction j using Nat.strongRecOn with
        | _ j ih =>
          intro _ hpj
          by_cases e2 : ∃ i, i < j ∧ p i
          · obtain ⟨i, h1, h2⟩ := e2
            obtain ⟨m, g1, g2, g3⟩ := ih i h1 (by omega) h2
            exact ⟨m, by omega, g2, g3⟩
          · exact ⟨j, Nat.le_refl _, hpj, fun i hi hpi => e2 ⟨i, hi, hpi⟩⟩
      obtain ⟨m, g1, g2, g3⟩ := this i hi hp
      exact ⟨m, by omega, g2, g3⟩
    · exact ⟨n + 1, Nat.le_refl _, h, fun i hi hpi => e ⟨i, by omega, hpi⟩⟩
theorem index_at : ∀ (d k : Nat) (l : List ByteArray) (nm : ByteArray) (i : Nat), l.length - i = d → i ≤ l.length → d + 1 ≤ k → l.length ≤ 1000 →
    ∃ r, slices_Index_string_string.l0 k l nm (l.length : Int) i = some r ∧ (0 ≤ r ↔ ∃ j : Nat, i ≤ j ∧ j < l.length ∧ hit l nm j) := by
  intro d
  induction d with
  | zero =>
    intro k l nm i hd hi hk hl
    obtain ⟨k, rfl⟩ : ∃ m, k = m + 1 := ⟨k - 1, by omega⟩
    refine ⟨-1, ?_, ?_⟩
    · rw [slices_Index_string_string.l0, if_neg (by omega)]
    · constructor
      · intro h; omega
      · rintro ⟨j, h1, h2, _⟩; omega
  | succ d ih =>
    intro k l nm i hd hi hk hl
    obtain ⟨k, rfl⟩ : ∃ m, k = m + 1 := ⟨k - 1, by omega⟩
    rw [slices_Index_string_string.l0, if_pos (by omega), if_pos (by omega), if_pos (by omega)]
    by_cases h : hit l nm (i : Int)
    · rw [if_pos h.symm]
      exact ⟨_, rfl, ⟨fun _ => ⟨i, Nat.le_refl _, by omega, h⟩, fun _ => by omega⟩⟩
    · rw [if_neg (fun e => h e.symm), wl (by omega) (by omega)]
      obtain ⟨r, e, hr⟩ := ih k l nm (i + 1) (by omega) (by omega) (by omega) hl
      refine ⟨r, e, hr.trans ⟨?_, ?_⟩⟩
      · rintro ⟨j, h1, h2, h3⟩; exact ⟨j, by omega, h2, h3⟩
      · rintro ⟨j, h1, h2, h3⟩
        rcases Nat.eq_or_lt_of_le h1 with e2 | e2
        · subst e2; exact absurd h3 h
        · exact ⟨j, e2, h2, h3⟩
/-- is somebody in the round? -/
def inR (l : List ByteArray) (nm : ByteArray) : Prop := ∃ j : Nat, j < l.length ∧ hit l nm j
theorem contains_at (k : Nat) (l : List ByteArray) (nm : ByteArray) (hk : l.length + 1 ≤ k) (hl : l.length ≤ 1000) : ∃ b, slices_Contains_string_string.f k l nm = some b ∧ (b = true ↔ inR l nm) := by
  unfold slices_Contains_string_string.f slices_Index_string_string.f
  obtain ⟨r, e, hr⟩ := index_at l.length k l nm 0 (by omega) (by omega) hk hl
  rw [show ((0 : Int)) = ((0 : Nat) : Int) from rfl, e]
  refine ⟨_, rfl, ?_⟩
  rw [decide_eq_true_eq]
  refine hr.trans ⟨?_, ?_⟩
  · rintro ⟨j, _, h2, h3⟩; exact ⟨j, h2, h3⟩
  · rintro ⟨j, h2, h3⟩; exact ⟨j, Nat.zero_le _, h2, h3⟩
/-- how many of the first turns are his -/
def cnt (l : List ByteArray) (nm : ByteArray) : Nat → Nat
  | 0 => 0
  | i + 1 => cnt l nm i + if hit l nm (i : Int) then 1 else 0
theorem cnt_le (l : List ByteArray) (nm : ByteArray) : ∀ i, cnt l nm i ≤ i
  | 0 => Nat.le_refl _
  | i + 1 => by have := cnt_le l nm i; unfold cnt; split <;> omega
theorem mul_le16 {S : Int} {m : Nat} (h1 : 1 ≤ S) (h2 : S ≤ 1073741824) {c : Nat} (h : m ≤ c) : 0 ≤ S * (m : Int) ∧ S * (m : Int) ≤ 1073741824 * (c : Int) :=
  ⟨Int.mul_nonneg (by omega) (by omega), Int.mul_le_mul h2 (by omega) (by omega) (by omega)⟩
theorem sh_loop : ∀ (d k : Nat) (S : Int) (l : List ByteArray) (nm : ByteArray) (i : Nat), okR S l → l.length - i = d → i ≤ l.length → d + 1 ≤ k →
    slot_Share.l0 k nm (S * (cnt l nm i : Int)) l (l.length : Int) i S l = some (S * (cnt l nm l.length : Int)) := by
  intro d
  induction d with
  | zero =>
    intro k S l nm i ho hd hi hk
    obtain ⟨k, rfl⟩ : ∃ m, k = m + 1 := ⟨k - 1, by omega⟩
    obtain rfl : i = l.length := by omega
    rw [slot_Share.l0, if_neg (by omega)]
  | succ d ih =>
    intro k S l nm i ho hd hi hk
    obtain ⟨k, rfl⟩ : ∃ m, k = m + 1 := ⟨k - 1, by omega⟩
    have hh := ho
    unfold okR at hh
    rw [slot_Share.l0, if_pos (by omega), if_pos (by omega), if_pos (by omega), wl (a := (i : Int) + 1) (by omega) (by omega)]
    have ih' := ih k S l nm (i + 1) ho (by omega) (by omega) (by omega)
    by_cases h : hit l nm (i : Int)
    · have b := mul_le16 hh.1 hh.2.1 (cnt_le l nm i)
      rw [if_pos (hit_eq h), wl (by omega) (by omega), show S * (cnt l nm i : Int) + S = S * (cnt l nm (i + 1) : Int) by rw [cnt, if_pos h, Int.natCast_add, Int.mul_add]; simp]
      exact ih'
    · rw [if_neg (hit_ne h), show S * (cnt l nm i : Int) = S * (cnt l nm (i + 1) : Int) by rw [cnt, if_neg h, Nat.add_zero]]
      exact ih'
theorem share_at (k : Nat) (hk : 25 ≤ k) (S : Int) (l : List ByteArray) (nm : ByteArray) : slot_Share.f k S l nm = some (if okR S l ∧ nm.toList ≠ [] then S * (cnt l nm l.length : Int) else 0) := by
  obtain ⟨k, rfl⟩ : ∃ m, k = m + 1 := ⟨k - 1, by omega⟩
  unfold slot_Share.f
  rw [scheck_at _ (by omega)]
  simp only [Option.bind_some]
  by_cases h : okR S l
  · rw [if_pos h]
    simp only [Option.isNone_none, if_true]
    by_cases hn : nm.toList = []
    · rw [show (nm.toList == ([] : List UInt8)) = true by rw [hn]; rfl, if_neg (show ¬ (okR S l ∧ nm.toList ≠ []) from fun g => g.2 hn)]
      simp only [slot_Share.j0, if_true]
    · rw [show (nm.toList == ([] : List UInt8)) = false from beq_eq_false_iff_ne.2 hn, if_pos (show okR S l ∧ nm.toList ≠ [] from ⟨h, hn⟩)]
      simp only [slot_Share.j0]
      rw [if_neg (by simp)]
      have hh := h
      unfold okR at hh
      have := sh_loop l.length k S l nm 0 h (by omega) (by omega) (by omega)
      simpa [cnt] using this
  · rw [if_neg h, if_neg (show ¬ (okR S l ∧ nm.toList ≠ []) from fun g => h g.1)]
    simp only [Option.isNone_some, Bool.false_eq_true, if_false, slot_Share.j0, if_true]
/-- the numbers of a turn -/
theorem q_of {S t : Int} (h1 : 1 ≤ S) (h0 : 0 ≤ t) : 0 ≤ t / S ∧ S * (t / S) ≤ t ∧ t < S * (t / S) + S ∧ t % S = t - S * (t / S) := by
  have a := Int.ediv_nonneg h0 (show 0 ≤ S by omega)
  have b := Int.emod_nonneg t (show S ≠ 0 by omega)
  have c := Int.emod_lt_of_pos t (show 0 < S by omega)
  have d := Int.emod_def t S
  omega
theorem next_mod (a L : Int) : (a % L + 1) % L = (a + 1) % L := by rw [Int.emod_add_emod]
theorem mod_in {l : List ByteArray} (h : 1 ≤ l.length) (a : Int) : 0 ≤ a % (l.length : Int) ∧ a % (l.length : Int) < l.length :=
  ⟨Int.emod_nonneg _ (by omega), Int.emod_lt_of_pos _ (by omega)⟩
theorem turn_at {S q : Int} {m : Nat} (h1 : 1 ≤ S) (h2 : S ≤ 1073741824) (hq : 0 ≤ q) (hb : S * q ≤ 1152921504606846976) (hm : m ≤ 20) : 0 ≤ S * (q + m) ∧ S * (q + m) ≤ 1152921504606846976 + 21474836480 ∧ S * (q + m) = S * q + S * m := by
  have e := Int.mul_add S q m
  have := mul_le16 h1 h2 hm
  have : 0 ≤ S * q := Int.mul_nonneg (by omega) hq
  omega
theorem nx_loop : ∀ (d k : Nat) (S q : Int) (l : List ByteArray) (nm : ByteArray) (m m0 : Nat), okR S l → 0 ≤ q → S * q ≤ 1152921504606846976 → m + d = m0 → m0 ≤ 16 → d + 1 ≤ k →
    hit l nm ((q + m0) % l.length) → (∀ i, i < m0 → ¬ hit l nm ((q + i) % l.length)) →
    slot_Next.l0 k nm ((q + m) % l.length) (S * (q + m)) S l = some (S * (q + m0), none) := by
  intro d
  induction d with
  | zero =>
    intro k S q l nm m m0 ho hq hb hm h16 hk hit0 hno
    obtain ⟨k, rfl⟩ : ∃ m, k = m + 1 := ⟨k - 1, by omega⟩
    obtain rfl : m = m0 := by omega
    have hr := mod_in (l := l) ho.2.2.1 (q + m)
    rw [slot_Next.l0, if_pos hr.1, if_pos hr.2, if_pos (hit_eq hit0)]
  | succ d ih =>
    intro k S q l nm m m0 ho hq hb hm h16 hk hit0 hno
    obtain ⟨k, rfl⟩ : ∃ m, k = m + 1 := ⟨k - 1, by omega⟩
    have hh := ho
    unfold okR at hh
    have hr := mod_in (l := l) ho.2.2.1 (q + m)
    have tb := turn_at (m := m) hh.1 hh.2.1 hq hb (by omega)
    rw [slot_Next.l0, if_pos hr.1, if_pos hr.2, if_neg (hit_ne (hno m (by omega))), if_neg (by omega)]
    rw [wl (a := (q + m) % (l.length : Int) + 1) (by omega) (by omega), Int.tmod_eq_emod_of_nonneg (by omega), next_mod, wl (a := S * (q + m) + S) (by omega) (by omega)]
    have ih' := ih k S q l nm (m + 1) m0 ho hq hb (by omega) h16 (by omega) hit0 hno
    rw [show q + ((m + 1 : Nat) : Int) = q + (m : Int) + 1 by omega, show S * (q + (m : Int) + 1) = S * (q + m) + S by rw [Int.mul_add]; omega] at ih'
    exact ih'
/-- his next turn begins: the least number of turns from now on -/
def isNext (l : List ByteArray) (nm : ByteArray) (q : Int) (m0 : Nat) : Prop := m0 < l.length ∧ hit l nm ((q + m0) % l.length) ∧ ∀ i, i < m0 → ¬ hit l nm ((q + i) % l.length)
theorem has_next {l : List ByteArray} {nm : ByteArray} {q : Int} (hl : 1 ≤ l.length) (h : inR l nm) : ∃ m0, isNext l nm q m0 := by
  obtain ⟨j, hj, hh⟩ := h
  have hr := mod_in (l := l) hl ((j : Int) - q)
  obtain ⟨n, hn⟩ : ∃ n : Nat, (n : Int) = ((j : Int) - q) % l.length := ⟨(((j : Int) - q) % l.length).toNat, by omega⟩
  have e : (q + (n : Int)) % l.length = j := by
    rw [hn, Int.add_emod_emod, show q + ((j : Int) - q) = j by omega]
    exact Int.emod_eq_of_lt (by omega) (by omega)
  obtain ⟨m, h1, h2, h3⟩ := first_hit (fun i => hit l nm ((q + (i : Int)) % l.length)) n (by show hit l nm _; rw [e]; exact hh)
  exact ⟨m, by omega, h2, h3⟩
theorem no_hit {l : List ByteArray} {nm : ByteArray} (hl : 1 ≤ l.length) (h : ¬ inR l nm) (a : Int) : ¬ hit l nm (a % l.length) := by
  intro g
  have hr := mod_in (l := l) hl a
  refine h ⟨(a % (l.length : Int)).toNat, by omega, ?_⟩
  rw [Int.toNat_of_nonneg hr.1]; exact g
/-- when his next turn is -/
theorem next_bad (k : Nat) (hk : 40 ≤ k) (S : Int) (l : List ByteArray) (nm : ByteArray) (t : Int) (ht : R64 t) (h : ¬ goodR S l t) : slot_Next.f k S l nm t = some (0, some 1) := by
  unfold slot_Next.f
  rw [at_at k (by omega) S l t ht, if_neg h]
  simp
theorem next_none (k : Nat) (hk : 40 ≤ k) (S : Int) (l : List ByteArray) (nm : ByteArray) (t : Int) (ht : R64 t) (h : goodR S l t) (hn : nm.toList = [] ∨ ¬ inR l nm) : slot_Next.f k S l nm t = some (0, some 6) := by
  obtain ⟨k, rfl⟩ : ∃ m, k = m + 1 := ⟨k - 1, by omega⟩
  have hh := h.1
  unfold okR at hh
  unfold slot_Next.f
  rw [at_at _ (by omega) S l t ht, if_pos h]
  simp only [Option.bind_some, Option.isNone_none, if_true]
  by_cases h0 : nm.toList = []
  · rw [if_pos h0]; simp [slot_Next.j0]
  · rw [if_neg h0]
    obtain ⟨b, e, hb⟩ := contains_at (k + 1) l nm (by omega) (by omega)
    have hf : b = false := by
      cases b with
      | false => rfl
      | true => rcases hn with hn | hn; exact absurd hn h0; exact absurd (hb.1 rfl) hn
    rw [e, hf]
    simp [slot_Next.j0]
theorem next_some (k : Nat) (hk : 40 ≤ k) (S : Int) (l : List ByteArray) (nm : ByteArray) (t : Int) (ht : R64 t) (h : goodR S l t) (hn : nm.toList ≠ []) (hi : inR l nm) (m0 : Nat) (hm : isNext l nm (t / S) m0) : slot_Next.f k S l nm t = some (if m0 = 0 then t else S * (t / S + m0), none) := by
  obtain ⟨k, rfl⟩ : ∃ m, k = m + 2 := ⟨k - 2, by omega⟩
  have hh := h.1
  unfold okR at hh
  have ht2 := h.2
  obtain ⟨h1, h2, h3⟩ := hm
  unfold slot_Next.f
  rw [at_at _ (by omega) S l t ht, if_pos h]
  simp only [Option.bind_some, Option.isNone_none, if_true]
  rw [if_neg hn]
  obtain ⟨b, e, hb⟩ := contains_at (k + 2) l nm (by omega) (by omega)
  rw [e, hb.2 hi]
  obtain ⟨q0, q1, q2, q3⟩ := q_of hh.1 ht2.1
  have q4 : 0 ≤ S * (t / S) := Int.mul_nonneg (by omega) q0
  have hr := mod_in (l := l) (by omega) (t / S)
  simp only [Option.bind_some, slot_Next.j0]
  rw [if_neg (by simp), if_pos hr.1, if_pos hr.2]
  by_cases h0 : m0 = 0
  · subst h0
    rw [if_pos (by have := h2; simpa [hit] using this), if_pos rfl]
  · have hx := h3 0 (by omega)
    rw [if_neg (by simpa [hit] using hx), if_neg h0, q3, wl (by omega) (by omega)]
    have := nx_loop m0 (k + 1) S (t / S) l nm 0 m0 h.1 q0 (by omega) (by omega) (by omega) (by omega) h2 h3
    rw [show t - (t - S * (t / S)) = S * (t / S) by omega]
    simpa using this
theorem sure_at (k : Nat) (hk : 40 ≤ k) : fuseelaw35_sure.f k = some true :=
  at_rounds (g := fuseelaw35_sure.f) (fun k => fuseelaw35_sure.mono k) hk (by decide +kernel)

theorem may_loop : ∀ (d k : Nat) (S : Int) (l : List ByteArray) (i : Nat), l.length - i = d → i ≤ l.length → d + 1 ≤ k → l.length ≤ 1000 → (∀ j : Nat, j < i → (rdOf ByteArray.empty l j).size ≤ 12) →
    fuseeref35_May.l0 k i S l = some (decide (okR S l)) := by
  intro d
  induction d with
  | zero =>
    intro k S l i hd hi hk hl hs
    obtain ⟨k, rfl⟩ : ∃ m, k = m + 1 := ⟨k - 1, by omega⟩
    rw [fuseeref35_May.l0, if_neg (by omega)]
    have hall : ∀ s ∈ l, s.size ≤ 12 := by
      intro s h
      obtain ⟨j, hj, e⟩ := mem_rdO h
      rw [← e]; exact hs j (by omega)
    by_cases h1 : S ≥ 1
    · rw [if_pos h1]
      by_cases h2 : S ≤ 1073741824
      · rw [if_pos h2]
        by_cases h3 : (l.length : Int) ≥ 1
        · rw [if_pos h3]
          congr 1
          rw [decide_eq_decide]
          exact ⟨fun h => ⟨h1, h2, by omega, by omega, hall⟩, fun h => by have := h.2.2.2.1; omega⟩
        · rw [if_neg h3, decide_eq_false (fun h => by have := h.2.2.1; omega)]
      · rw [if_neg h2, decide_eq_false (fun h => h2 h.2.1)]
    · rw [if_neg h1, decide_eq_false (fun h => h1 h.1)]
  | succ d ih =>
    intro k S l i hd hi hk hl hs
    obtain ⟨k, rfl⟩ : ∃ m, k = m + 1 := ⟨k - 1, by omega⟩
    rw [fuseeref35_May.l0, if_pos (by omega), if_pos (by omega)]
    by_cases h : ((rdOf ByteArray.empty l (i : Int)).size : Int) > 12
    · rw [if_pos h, decide_eq_false]
      intro g
      have := g.2.2.2.2 _ (rdO_mem (l := l) (i := (i : Int)) (by omega) (by omega)); omega
    · rw [if_neg h, wl (by omega) (by omega)]
      refine ih k S l (i + 1) (by omega) (by omega) (by omega) hl ?_
      intro j hj
      rcases Nat.lt_or_ge j i with g | g
      · exact hs j g
      · obtain rfl : j = i := by omega
        omega
theorem may_at (k : Nat) (S : Int) (l : List ByteArray) (hk : l.length + 1 ≤ k) (hl : l.length ≤ 1000) : fuseeref35_May.f k S l = some (decide (okR S l)) :=
  may_loop l.length k S l 0 (by omega) (by omega) hk hl (fun j hj => absurd hj (by omega))
theorem wrong_at (k : Nat) (S : Int) (l : List ByteArray) (t : Int) (hk : l.length + 1 ≤ k) (hl : l.length ≤ 1000) : fuseeref35_wrong.f k S l t = some (!decide (goodR S l t)) := by
  unfold fuseeref35_wrong.f
  rw [may_at k S l hk hl]
  simp only [Option.bind_some, decide_eq_true_eq]
  by_cases h : okR S l
  · rw [if_pos h]
    by_cases h1 : t < 0
    · rw [if_pos h1, decide_eq_false (fun g => by have := g.2.1; omega)]; rfl
    · rw [if_neg h1]
      by_cases h2 : t > 1152921504606846976
      · rw [decide_eq_true h2, decide_eq_false (fun g => by have := g.2.2; omega)]; rfl
      · rw [decide_eq_false h2, decide_eq_true (show goodR S l t from ⟨h, by omega, by omega⟩)]; rfl
  · rw [if_neg h, decide_eq_false (fun g => h g.1)]; rfl
theorem idx (t S : Int) (L : Nat) (h0 : 0 ≤ t) (h1 : 1 ≤ S) : t % (S * (L : Int)) / S = t / S % (L : Int) := by
  obtain ⟨T, rfl⟩ := Int.eq_ofNat_of_zero_le h0
  obtain ⟨s, rfl⟩ := Int.eq_ofNat_of_zero_le (show 0 ≤ S by omega)
  exact_mod_cast Nat.mod_mul_right_div_self T s L
theorem spin {S : Int} {l : List ByteArray} (h : okR S l) : 1 ≤ S * (l.length : Int) ∧ S * (l.length : Int) ≤ 17179869184 := by
  have hh := h
  unfold okR at hh
  have a := mul_le16 hh.1 hh.2.1 hh.2.2.2.1
  have b : S * 1 ≤ S * (l.length : Int) := Int.mul_le_mul_of_nonneg_left (by omega) (by omega)
  omega
theorem idx_at {S : Int} {l : List ByteArray} (h : okR S l) (t : Int) (h0 : 0 ≤ t) : wrap64 (Int.tdiv (Int.tmod t (wrap64 (S * (l.length : Int)))) S) = t / S % (l.length : Int) := by
  have hs := spin h
  have hh := h
  unfold okR at hh
  have hr := mod_in (l := l) (by omega) (t / S)
  rw [wl (a := S * (l.length : Int)) (by omega) (by omega), Int.tmod_eq_emod_of_nonneg h0, Int.tdiv_eq_ediv_of_nonneg (Int.emod_nonneg _ (by omega)), idx t S l.length h0 hh.1, wl hr.1 (by omega)]
theorem rwho_at (k : Nat) (S : Int) (l : List ByteArray) (t : Int) (hk : l.length + 1 ≤ k) (hl : l.length ≤ 1000) : fuseeref35_Who.f k S l t = some (if goodR S l t then (rdOf ByteArray.empty l (t / S % l.length), 0) else ((⟨#[]⟩ : ByteArray), 1)) := by
  unfold fuseeref35_Who.f
  rw [wrong_at k S l t hk hl]
  simp only [Option.bind_some]
  by_cases h : goodR S l t
  · have hs := spin h.1
    have hr := mod_in (l := l) h.1.2.2.1 (t / S)
    have h1 := h.1.1
    rw [decide_eq_true h, if_neg (by simp), if_neg (by rw [wl (by omega) (by omega)]; omega), if_neg (by omega), idx_at h.1 t h.2.1, if_pos hr.1, if_pos hr.2, if_pos h]
  · rw [decide_eq_false h, if_pos (by simp), if_neg h]
theorem rleft_at (k : Nat) (S : Int) (l : List ByteArray) (t : Int) (hk : l.length + 1 ≤ k) (hl : l.length ≤ 1000) : fuseeref35_Left.f k S l t = some (if goodR S l t then (S - t % S, 0) else (0, 1)) := by
  unfold fuseeref35_Left.f
  rw [wrong_at k S l t hk hl]
  simp only [Option.bind_some]
  by_cases h : goodR S l t
  · have h1 := h.1.1; have h2 := h.1.2.1
    have a0 := Int.emod_nonneg t (show S ≠ 0 by omega)
    have a1 := Int.emod_lt_of_pos t (show 0 < S by omega)
    rw [decide_eq_true h, if_neg (by simp), if_neg (by omega), Int.tmod_eq_emod_of_nonneg h.2.1, wl (by omega) (by omega), if_pos h]
  · rw [decide_eq_false h, if_pos (by simp), if_neg h]
theorem begin_at {S t : Int} {l : List ByteArray} (h : goodR S l t) (m : Nat) (hm : m ≤ 20) : wrap64 ((wrap64 (t - (Int.tmod t S))) + (wrap64 ((m : Int) * S))) = S * (t / S + m) := by
  have hh := h.1
  unfold okR at hh
  have ht := h.2
  obtain ⟨q0, q1, q2, q3⟩ := q_of hh.1 ht.1
  have tb := turn_at (m := m) hh.1 hh.2.1 q0 (by omega) hm
  have mb := mul_le16 hh.1 hh.2.1 hm
  have q4 : 0 ≤ S * (t / S) := Int.mul_nonneg (by omega) q0
  rw [Int.tmod_eq_emod_of_nonneg ht.1, q3, show t - (t - S * (t / S)) = S * (t / S) by omega, show (m : Int) * S = S * m from Int.mul_comm (m : Int) S,
    wl (a := S * (t / S)) (by omega) (by omega), wl (a := S * (m : Int)) (by omega) (by omega), wl (a := S * (t / S) + S * (m : Int)) (by omega) (by omega)]
  omega
theorem round_at (k : Nat) (S t : Int) (l : List ByteArray) (nm : ByteArray) (h : goodR S l t) (hn : nm.toList ≠ []) (m : Nat) (hm : m ≤ l.length) :
    fuseeref35_Next.l0 (k + 2) nm t m S l = if hit l nm ((t / S + m) % l.length) then some (if m = 0 then t else S * (t / S + m), 0) else fuseeref35_Next.l0 k nm t ((m + 1 : Nat) : Int) S l := by
  have hh := h.1
  unfold okR at hh
  have ht := h.2
  have hs := spin h.1
  obtain ⟨q0, q1, q2, q3⟩ := q_of hh.1 ht.1
  have tb := turn_at (m := m) hh.1 hh.2.1 q0 (by omega) (by omega)
  have hr := mod_in (l := l) (by omega) (t / S + m)
  have ix : wrap64 (Int.tdiv (Int.tmod (S * (t / S + m)) (wrap64 (S * (l.length : Int)))) S) = (t / S + m) % (l.length : Int) := by
    rw [idx_at h.1 _ tb.1, Int.mul_ediv_cancel_left _ (by omega)]
  rw [fuseeref35_Next.l0, if_pos (by omega), show (nm.toList != ([] : List UInt8)) = true from bne_iff_ne.2 hn]
  simp only [fuseeref35_Next.j1, begin_at h m (by omega), ix]
  rw [if_pos trivial, if_neg (by omega), if_neg (by rw [wl (by omega) (by omega)]; omega), if_pos hr.1, if_pos hr.2]
  by_cases g : hit l nm ((t / S + m) % l.length)
  · rw [if_pos (hit_eq g), if_pos g]
    by_cases h0 : m = 0
    · subst h0
      rw [if_pos rfl]
      have z : S * (t / S + ((0 : Nat) : Int)) = S * (t / S) := by simp
      rw [z]
      by_cases b : S * (t / S) < t
      · rw [if_pos b]
      · rw [if_neg b, show S * (t / S) = t by omega]
    · have : S * 1 ≤ S * (m : Int) := Int.mul_le_mul_of_nonneg_left (by omega) (by omega)
      rw [if_neg h0, if_neg (by omega)]
  · rw [if_neg (hit_ne g), if_neg g, wl (by omega) (by omega)]
    rfl
theorem rn_loop : ∀ (d k : Nat) (S t : Int) (l : List ByteArray) (nm : ByteArray) (m m0 : Nat), goodR S l t → nm.toList ≠ [] → m + d = m0 → isNext l nm (t / S) m0 → 2 * d + 2 ≤ k →
    fuseeref35_Next.l0 k nm t m S l = some (if m0 = 0 then t else S * (t / S + m0), 0) := by
  intro d
  induction d with
  | zero =>
    intro k S t l nm m m0 hg hn hm hx hk
    obtain ⟨k, rfl⟩ : ∃ m, k = m + 2 := ⟨k - 2, by omega⟩
    obtain rfl : m = m0 := by omega
    rw [round_at k S t l nm hg hn m (by have := hx.1; omega), if_pos hx.2.1]
  | succ d ih =>
    intro k S t l nm m m0 hg hn hm hx hk
    obtain ⟨k, rfl⟩ : ∃ m, k = m + 2 := ⟨k - 2, by omega⟩
    rw [round_at k S t l nm hg hn m (by have := hx.1; omega), if_neg (hx.2.2 m (by omega))]
    exact ih k S t l nm (m + 1) m0 hg hn (by omega) hx (by omega)
theorem rn_none : ∀ (d k : Nat) (S t : Int) (l : List ByteArray) (nm : ByteArray) (m : Nat), goodR S l t → nm.toList ≠ [] → ¬ inR l nm → m + d = l.length + 1 → 2 * d + 2 ≤ k →
    fuseeref35_Next.l0 k nm t m S l = some (0, 6) := by
  intro d
  induction d with
  | zero =>
    intro k S t l nm m hg hn hx hm hk
    obtain ⟨k, rfl⟩ : ∃ m, k = m + 2 := ⟨k - 2, by omega⟩
    rw [fuseeref35_Next.l0, if_neg (by omega)]
    simp [fuseeref35_Next.j1]
  | succ d ih =>
    intro k S t l nm m hg hn hx hm hk
    obtain ⟨k, rfl⟩ : ∃ m, k = m + 2 := ⟨k - 2, by omega⟩
    rw [round_at k S t l nm hg hn m (by omega), if_neg (no_hit hg.1.2.2.1 hx _)]
    exact ih k S t l nm (m + 1) hg hn hx (by omega) (by omega)
/-- both tell the next turn alike -/
theorem both (k : Nat) (hk : 100 ≤ k) (S t : Int) (l : List ByteArray) (nm : ByteArray) (ht : R64 t) (hl : l.length ≤ 40) :
    ∃ (x : Int) (e : Option Int), slot_Next.f k S l nm t = some (x, e) ∧ fuseeref35_Next.f k S l nm t = some (x, numE e) := by
  unfold fuseeref35_Next.f
  rw [wrong_at k S l t (by omega) (by omega)]
  simp only [Option.bind_some]
  by_cases h : goodR S l t
  · rw [decide_eq_true h, if_neg (by simp)]
    have hh := h.1
    unfold okR at hh
    by_cases hn : nm.toList = []
    · refine ⟨0, some 6, next_none k (by omega) S l nm t ht h (Or.inl hn), ?_⟩
      obtain ⟨k, rfl⟩ : ∃ m, k = m + 2 := ⟨k - 2, by omega⟩
      rw [fuseeref35_Next.l0, if_pos (by omega), show (nm.toList != ([] : List UInt8)) = false by rw [hn]; rfl]
      simp [fuseeref35_Next.j1, numE]
    · by_cases hi : inR l nm
      · obtain ⟨m0, hm⟩ := has_next (q := t / S) hh.2.2.1 hi
        exact ⟨_, none, next_some k (by omega) S l nm t ht h hn hi m0 hm, rn_loop m0 k S t l nm 0 m0 h hn (by omega) hm (by have := hm.1; omega)⟩
      · exact ⟨0, some 6, next_none k (by omega) S l nm t ht h (Or.inr hi), rn_none (l.length + 1) k S t l nm 0 h hn hi (by omega) (by omega)⟩
  · rw [decide_eq_false h, if_pos (by simp)]
    exact ⟨0, some 1, next_bad k (by omega) S l nm t ht h, rfl⟩
theorem endS (k : Nat) (hk : 60 ≤ k) (nm w1 w2 : ByteArray) (e1 e2 e3 : Option Int) (f1 f2 n1 n2 n3 x1 x2 sh i S : Int) (l : List ByteArray) (hl : l.length ≤ 40)
    (h1 : w1.toList = w2.toList) (h2 : numE e1 = n1) (h3 : f1 = f2) (h4 : numE e2 = n2) (h5 : x1 = x2) (h6 : numE e3 = n3) (h7 : (if okR S l ∧ nm.toList ≠ [] then S * (cnt l nm l.length : Int) else 0) = sh) :
    fuseelaw35_SlotTells.j3 k nm w1 e1 w2 n1 f1 e2 f2 n2 x1 e3 x2 n3 sh i false S l S l = some true := by
  obtain ⟨k, rfl⟩ : ∃ m, k = m + 1 := ⟨k - 1, by omega⟩
  simp only [fuseelaw35_SlotTells.j3, fuseelaw35_num.f, Option.bind_some]
  rw [if_neg (by simp), if_pos h1, if_pos h2, if_pos h3, if_pos h4, if_pos h5, if_pos h6, share_at k (by omega), scheck_at k (by omega), may_at k S l (by omega) (by omega)]
  simp only [Option.bind_some]
  rw [if_pos h7]
  by_cases h : okR S l
  · rw [if_pos h, decide_eq_true h, sure_at k (by omega)]; rfl
  · rw [if_neg h, decide_eq_false h, sure_at k (by omega)]; simp
theorem lawloop : ∀ (d k : Nat) (nm w1 w2 : ByteArray) (e1 e2 e3 : Option Int) (f1 f2 n1 n2 n3 x1 x2 S : Int) (l : List ByteArray) (i : Nat), l.length - i = d → i ≤ l.length → 2 * d + 100 ≤ k → okR S l → nm.toList ≠ [] →
    w1.toList = w2.toList → numE e1 = n1 → f1 = f2 → numE e2 = n2 → x1 = x2 → numE e3 = n3 →
    fuseelaw35_SlotTells.l1 k nm w1 e1 w2 n1 f1 e2 f2 n2 x1 e3 x2 n3 (S * (cnt l nm i : Int)) i S l S l = some true := by
  intro d
  induction d with
  | zero =>
    intro k nm w1 w2 e1 e2 e3 f1 f2 n1 n2 n3 x1 x2 S l i hd hi hk ho hn h1 h2 h3 h4 h5 h6
    obtain ⟨k, rfl⟩ : ∃ m, k = m + 1 := ⟨k - 1, by omega⟩
    have hh := ho
    unfold okR at hh
    obtain rfl : i = l.length := by omega
    rw [fuseelaw35_SlotTells.l1, if_neg (by omega)]
    exact endS k (by omega) nm w1 w2 e1 e2 e3 f1 f2 n1 n2 n3 x1 x2 _ _ S l (by omega) h1 h2 h3 h4 h5 h6 (if_pos ⟨ho, hn⟩)
  | succ d ih =>
    intro k nm w1 w2 e1 e2 e3 f1 f2 n1 n2 n3 x1 x2 S l i hd hi hk ho hn h1 h2 h3 h4 h5 h6
    obtain ⟨k, rfl⟩ : ∃ m, k = m + 2 := ⟨k - 2, by omega⟩
    have hh := ho
    unfold okR at hh
    rw [fuseelaw35_SlotTells.l1, if_pos (by omega), may_at _ S l (by omega) (by omega), decide_eq_true ho, show (nm.toList != ([] : List UInt8)) = true from bne_iff_ne.2 hn]
    simp only [Option.bind_some, if_true, fuseelaw35_SlotTells.j3]
    rw [if_pos (by omega), if_pos (by omega), wl (a := (i : Int) + 1) (by omega) (by omega)]
    have ih' := ih k nm w1 w2 e1 e2 e3 f1 f2 n1 n2 n3 x1 x2 S l (i + 1) (by omega) (by omega) (by omega) ho hn h1 h2 h3 h4 h5 h6
    by_cases h : hit l nm (i : Int)
    · have b := mul_le16 hh.1 hh.2.1 (cnt_le l nm i)
      rw [if_pos (hit_eq h), wl (by omega) (by omega), show S * (cnt l nm i : Int) + S = S * (cnt l nm (i + 1) : Int) by rw [cnt, if_pos h, Int.natCast_add, Int.mul_add]; simp]
      exact ih'
    · rw [if_neg (hit_ne h), show S * (cnt l nm i : Int) = S * (cnt l nm (i + 1) : Int) by rw [cnt, if_neg h, Nat.add_zero]]
      exact ih'
theorem lawstart (k : Nat) (hk : 200 ≤ k) (nm w1 w2 : ByteArray) (e1 e2 e3 : Option Int) (f1 f2 n1 n2 n3 x1 x2 S : Int) (l : List ByteArray) (hl : l.length ≤ 40)
    (h1 : w1.toList = w2.toList) (h2 : numE e1 = n1) (h3 : f1 = f2) (h4 : numE e2 = n2) (h5 : x1 = x2) (h6 : numE e3 = n3) :
    fuseelaw35_SlotTells.l1 k nm w1 e1 w2 n1 f1 e2 f2 n2 x1 e3 x2 n3 0 0 S l S l = some true := by
  by_cases h : okR S l ∧ nm.toList ≠ []
  · have hh := h.1
    unfold okR at hh
    have := lawloop l.length k nm w1 w2 e1 e2 e3 f1 f2 n1 n2 n3 x1 x2 S l 0 (by omega) (by omega) (by omega) h.1 h.2 h1 h2 h3 h4 h5 h6
    simpa [cnt] using this
  · obtain ⟨k, rfl⟩ : ∃ m, k = m + 1 := ⟨k - 1, by omega⟩
    have E := endS k (by omega) nm w1 w2 e1 e2 e3 f1 f2 n1 n2 n3 x1 x2 0 0 S l hl h1 h2 h3 h4 h5 h6 (if_neg h)
    rw [fuseelaw35_SlotTells.l1]
    by_cases g : (0 : Int) < (l.length : Int)
    · rw [if_pos g, may_at _ S l (by omega) (by omega)]
      simp only [Option.bind_some, decide_eq_true_eq]
      by_cases ho : okR S l
      · have hn : nm.toList = [] := Classical.byContradiction fun c => h ⟨ho, c⟩
        rw [if_pos ho, show (nm.toList != ([] : List UInt8)) = false by rw [hn]; rfl]; exact E
      · rw [if_neg ho]; exact E
    · rw [if_neg g]; exact E
theorem lawl0 : ∀ (d k : Nat) (nm : ByteArray) (t S : Int) (l : List ByteArray) (i : Nat), R64 t → l.length ≤ 40 → l.length - i = d → i ≤ l.length → d + 300 ≤ k → fuseelaw35_SlotTells.l0 k nm t i S l = some true := by
  intro d
  induction d with
  | zero =>
    intro k nm t S l i ht hl hd hi hk
    obtain ⟨k, rfl⟩ : ∃ m, k = m + 1 := ⟨k - 1, by omega⟩
    rw [fuseelaw35_SlotTells.l0, if_neg (by omega), who_at k (by omega) S l t ht, rwho_at k S l t (by omega) (by omega), left_at k (by omega) S l t ht, rleft_at k S l t (by omega) (by omega)]
    obtain ⟨x, e, b1, b2⟩ := both k (by omega) S t l nm ht hl
    rw [b1, b2]
    simp only [Option.bind_some]
    by_cases h : goodR S l t
    · rw [if_pos h, if_pos h, if_pos h, if_pos h]
      exact lawstart k (by omega) _ _ _ _ _ _ _ _ _ _ _ _ _ S l hl rfl rfl rfl rfl rfl rfl
    · rw [if_neg h, if_neg h, if_neg h, if_neg h]
      exact lawstart k (by omega) _ _ _ _ _ _ _ _ _ _ _ _ _ S l hl rfl rfl rfl rfl rfl rfl
  | succ d ih =>
    intro k nm t S l i ht hl hd hi hk
    obtain ⟨k, rfl⟩ : ∃ m, k = m + 1 := ⟨k - 1, by omega⟩
    rw [fuseelaw35_SlotTells.l0, if_pos (by omega), if_pos (by omega)]
    by_cases h : ((rdOf ByteArray.empty l (i : Int)).size : Int) > 100
    · rw [if_pos h, sure_at k (by omega)]; rfl
    · rw [if_neg h, wl (by omega) (by omega)]
      exact ih k nm t S l (i + 1) ht hl (by omega) (by omega) (by omega)
theorem done (S : Int) (l : List ByteArray) (nm : ByteArray) (t : Int) (hS : (Lit.int .i64 S).wf = true) (hm : l.length ≤ maxLen) (wl0 : ∀ x ∈ l, x.size ≤ maxLen) (hn : nm.size ≤ 140737488351232) (ht : (Lit.int .i64 t).wf = true) : ∃ k, fuseelaw35_SlotTells.f k S l nm t = some true := by
  refine ⟨400, ?_⟩
  unfold fuseelaw35_SlotTells.f
  have J : fuseelaw35_SlotTells.j0 400 nm t true S l = some true := by
    simp only [fuseelaw35_SlotTells.j0, if_true]
    rw [sure_at _ (by omega)]; rfl
  by_cases h : (l.length : Int) > 40
  · rw [if_pos h]; exact J
  · rw [if_neg h]
    by_cases h1 : (nm.size : Int) > 100
    · rw [decide_eq_true h1]; exact J
    · rw [decide_eq_false h1]
      simp only [fuseelaw35_SlotTells.j0]
      rw [if_neg (by simp)]
      exact lawl0 l.length _ nm t S l 0 (R64.of_wf ht) (by omega) (by omega) (by omega) (by omega)
end Go.Proofs.YtnlaiiophongmaaDoor.MSlotTells
