/-
  SpanMost in plain numbers.
-/
import Derived.Test.YtfipgpfmlkfkfaaDoorK
import Derived.Test.YtfipgpfmlkfkfaaDoorAvg
import Derived.Test.YtfipgpfmlkfkfaaDoorMSpanMostx
namespace Go.Proofs.YtfipgpfmlkfkfaaDoor.MSpanMost
open Go.RowKit Go.Proofs.YtfipgpfmlkfkfaaDoorW.PrintWords Go.Proofs.YtfipgpfmlkfkfaaDoorW.PrintMore
set_option linter.unusedVariables false
set_option linter.unusedSimpArgs false

/-- the printed error is the error as a value -/
theorem errW_errV (o : Option Int) : errW o = errV o := by cases o <;> rfl
theorem pSub (a b : Int) (ha : R64 a) (hb : R64 b) : num_Sub.f a b = some (if R64 (a - b) then (a - b, none) else (0, some 2)) := by
  unfold num_Sub.f
  by_cases h : R64 (a - b)
  · rw [if_pos h, h.wrap, if_neg]
    unfold R64 at *
    by_cases h0 : b < 0 <;> simp [h0] <;> omega
  · rw [if_neg h, if_pos]
    unfold R64 at *
    by_cases h0 : b < 0
    · have : ¬ wrap64 (a - b) > a := by unfold wrap64; omega
      simp [h0]; omega
    · have : wrap64 (a - b) > a := by unfold wrap64; omega
      simp [h0]; omega
theorem pSubSat (a b : Int) (ha : R64 a) (hb : R64 b) : num_SubSat.f a b = some (sat (a - b)) := by
  unfold num_SubSat.f num_edge.f
  rw [pSub a b ha hb]
  by_cases h : R64 (a - b)
  · rw [if_pos h, sat_of h]; rfl
  · rw [if_neg h]
    unfold R64 at *
    by_cases h0 : b > 0
    · simp [h0]; unfold sat; rw [if_pos (by omega)]
    · simp [h0]; unfold sat; rw [if_neg (by omega), if_pos (by omega)]

theorem mx_eq (a b : Int) : mx a b = max a b := by unfold mx; omega
theorem mn_eq (a b : Int) : mn a b = min a b := by unfold mn; omega
theorem has_eq (a b n : Int) : span_Has.f a b n = some (decide (a ≤ n ∧ n ≤ b)) := by
  unfold span_Has.f
  split
  · congr 1; rw [decide_eq_decide]; omega
  · rw [decide_eq_false (by omega)]
theorem pcheck_eq (a b : Int) : span_Check.f a b = some (if a ≤ b then none else some 1) := by
  unfold span_Check.f
  split
  · rw [if_neg (by omega)]
  · rw [if_pos (by omega)]
/-- what two spans have together -/
def meetR (a b c d : Int) : Int × Int × Bool := if a ≤ b ∧ c ≤ d ∧ max a c ≤ min b d then (max a c, min b d, true) else (0, 0, false)
theorem meet_eq (a b c d : Int) : span_Meet.f a b c d = some (meetR a b c d) := by
  unfold span_Meet.f meetR
  simp only [pcheck_eq, mx_eq, mn_eq, Option.bind_some]
  by_cases h1 : a ≤ b
  · rw [if_pos h1]
    simp only [Option.isNone_none, if_true]
    by_cases h2 : c ≤ d
    · rw [if_pos h2]
      simp only [Option.isNone_none, if_true]
      by_cases h3 : max a c ≤ min b d
      · rw [if_pos h3, if_pos (show a ≤ b ∧ c ≤ d ∧ max a c ≤ min b d from ⟨h1, h2, h3⟩)]; simp
      · rw [if_neg h3, if_neg (show ¬ (a ≤ b ∧ c ≤ d ∧ max a c ≤ min b d) from fun h => h3 h.2.2)]; simp
    · rw [if_neg h2, if_neg (show ¬ (a ≤ b ∧ c ≤ d ∧ max a c ≤ min b d) from fun h => h2 h.2.1)]; simp
  · rw [if_neg h1, if_neg (show ¬ (a ≤ b ∧ c ≤ d ∧ max a c ≤ min b d) from fun h => h1 h.1)]; simp
theorem mid_eq (a b : Int) (ha : R64 a) (hb : R64 b) : span_Mid.f a b = some (if a ≤ b then ((a + b) / 2, sat (b - (a + b) / 2), none) else (0, 0, some 1)) := by
  unfold span_Mid.f
  rw [pcheck_eq]
  simp only [Option.bind_some]
  obtain ⟨m1, m2⟩ := mid_bits ha hb
  have m3 : R64 ((a + b) / 2) := by unfold R64 at *; omega
  rw [m1, m3.wrap]
  by_cases h : a ≤ b
  · rw [if_pos h, if_pos h]
    simp only [Option.isNone_none, if_true]
    rw [pSubSat _ _ hb m3]; simp
  · rw [if_neg h, if_neg h]; simp

theorem wl {a : Int} (h0 : 0 ≤ a) (h : a < 9223372036854775807) : wrap64 a = a := R64.wrap (by unfold R64; omega)
theorem rd_at {l : List S68} {i : Nat} (h : i < l.length) : rd_T68 l (i : Int) = l[i] := by
  unfold rd_T68
  simp [List.getD_eq_getElem?_getD, List.getElem?_eq_getElem h]
/-- does a span have a moment? -/
def has (x : Int) (s : S68) : Bool := decide (s.f0 ≤ x ∧ x ≤ s.f1)
def C (l : List S68) (x : Int) : Nat := l.countP (has x)
theorem drop_at {l : List S68} {i : Nat} (h : i < l.length) : l.drop i = l[i] :: l.drop (i + 1) := List.drop_eq_getElem_cons h
theorem count_loop : ∀ (d k : Nat) (x : Int) (l : List S68) (i c : Nat), l.length - i = d → i ≤ l.length → d + 1 ≤ k → l.length ≤ 1000 → c ≤ i →
    span_count.l0 k x c l (l.length : Int) i = some ((c + (l.drop i).countP (has x) : Nat) : Int) := by
  intro d
  induction d with
  | zero =>
    intro k x l i c hd hi hk hl hc
    obtain ⟨k, rfl⟩ : ∃ m, k = m + 1 := ⟨k - 1, by omega⟩
    obtain rfl : i = l.length := by omega
    rw [span_count.l0, if_neg (by omega)]; simp
  | succ d ih =>
    intro k x l i c hd hi hk hl hc
    obtain ⟨k, rfl⟩ : ∃ m, k = m + 1 := ⟨k - 1, by omega⟩
    have hn : i < l.length := by omega
    rw [span_count.l0, if_pos (by omega), if_pos (by omega), if_pos (by omega), has_eq, rd_at hn, wl (a := (i : Int) + 1) (by omega) (by omega), drop_at hn, List.countP_cons]
    simp only [Option.bind_some]
    have e : decide ((l[i]).f0 ≤ x ∧ x ≤ (l[i]).f1) = has x l[i] := rfl
    rw [e]
    cases hb : has x l[i] with
    | true =>
      simp only [if_true]
      rw [wl (a := (c : Int) + 1) (by omega) (by omega)]
      have := ih k x l (i + 1) (c + 1) (by omega) (by omega) (by omega) hl (by omega)
      rw [show c + (List.countP (has x) (l.drop (i + 1)) + 1) = c + 1 + List.countP (has x) (l.drop (i + 1)) by omega]
      exact this
    | false =>
      simp only [Bool.false_eq_true, if_false, Nat.add_zero]
      exact ih k x l (i + 1) c (by omega) (by omega) (by omega) hl (by omega)
theorem count_at (k : Nat) (l : List S68) (x : Int) (hk : l.length + 1 ≤ k) (hl : l.length ≤ 1000) : span_count.f k l x = some (C l x : Int) := by
  have := count_loop l.length k x l 0 0 (by omega) (by omega) hk hl (by omega)
  unfold span_count.f
  simpa [C] using this
/-- a span that begins after it ends -/
def badL (l : List S68) : Prop := ∃ s ∈ l, s.f1 < s.f0
theorem bad_loop : ∀ (d k : Nat) (l : List S68) (i : Nat), l.length - i = d → i ≤ l.length → d + 1 ≤ k → l.length ≤ 1000 →
    ∃ r, span_Span_87_at69.l0 k l (l.length : Int) i = some r ∧ (0 ≤ r ↔ ∃ s ∈ l.drop i, s.f1 < s.f0) := by
  intro d
  induction d with
  | zero =>
    intro k l i hd hi hk hl
    obtain ⟨k, rfl⟩ : ∃ m, k = m + 1 := ⟨k - 1, by omega⟩
    obtain rfl : i = l.length := by omega
    refine ⟨-1, ?_, ?_⟩
    · rw [span_Span_87_at69.l0, if_neg (by omega)]
    · simp
  | succ d ih =>
    intro k l i hd hi hk hl
    obtain ⟨k, rfl⟩ : ∃ m, k = m + 1 := ⟨k - 1, by omega⟩
    have hn : i < l.length := by omega
    rw [span_Span_87_at69.l0, if_pos (by omega), if_pos (by omega), if_pos (by omega), rd_at hn, drop_at hn]
    unfold span_Vote_1.f
    rw [pcheck_eq]
    simp only [Option.bind_some]
    by_cases h : (l[i]).f0 ≤ (l[i]).f1
    · rw [if_pos h]
      simp only [Option.isNone_none, if_true, Option.bind_some, Bool.false_eq_true, if_false]
      rw [wl (a := (i : Int) + 1) (by omega) (by omega)]
      obtain ⟨r, e, hr⟩ := ih k l (i + 1) (by omega) (by omega) (by omega) hl
      refine ⟨r, e, hr.trans ?_⟩
      simp only [List.mem_cons, exists_eq_or_imp]
      constructor
      · exact Or.inr
      · rintro (g | g)
        · omega
        · exact g
    · rw [if_neg h]
      simp only [Option.isNone_some, Bool.false_eq_true, if_false, Option.bind_some, if_true]
      exact ⟨_, rfl, ⟨fun _ => ⟨_, List.mem_cons_self, by omega⟩, fun _ => by omega⟩⟩
theorem bad_at (k : Nat) (l : List S68) (hk : l.length + 1 ≤ k) (hl : l.length ≤ 1000) : ∃ b, span_Span_70_at69.f k l = some b ∧ (b = true ↔ badL l) := by
  obtain ⟨r, e, hr⟩ := bad_loop l.length k l 0 (by omega) (by omega) hk hl
  unfold span_Span_70_at69.f span_Span_87_at69.f
  rw [show ((0 : Int)) = ((0 : Nat) : Int) from rfl, e]
  refine ⟨_, rfl, ?_⟩
  rw [decide_eq_true_eq]
  simpa [badL] using hr
/-- a span begins there -/
def isStart (l : List S68) (b : Int) : Prop := ∃ s ∈ l, b = s.f0
/-- what the first loop has found -/
def Inv0 (l : List S68) (i m : Nat) (b : Int) : Prop :=
  (∀ s ∈ l.take i, C l s.f0 ≤ m) ∧ (∀ s ∈ l.take i, C l s.f0 = m → b ≤ s.f0) ∧ (0 < i → 1 ≤ m ∧ C l b = m ∧ isStart l b) ∧ (i = 0 → m = 0)
theorem take_next {l : List S68} {i : Nat} (h : i < l.length) {p : S68 → Prop} (h1 : ∀ s ∈ l.take i, p s) (h2 : p l[i]) : ∀ s ∈ l.take (i + 1), p s := by
  intro s hs
  rw [List.take_succ_eq_append_getElem h] at hs
  rcases List.mem_append.1 hs with g | g
  · exact h1 s g
  · simp at g; subst g; exact h2
theorem v0_loop (l : List S68) (hv : ¬ badL l) (hl : l.length ≤ 1000) : ∀ (d k : Nat) (i m : Nat) (b : Int), l.length - i = d → i ≤ l.length → l.length + 1 ≤ k → Inv0 l i m b →
    ∃ m' b', Inv0 l l.length m' b' ∧ span_Vote.l0 (k + d + 1) l m b l (l.length : Int) i = span_Vote.l1 k m' b' l (l.length : Int) 0 b' 9223372036854775807 := by
  intro d
  induction d with
  | zero =>
    intro k i m b hd hi hk hI
    obtain rfl : i = l.length := by omega
    refine ⟨m, b, hI, ?_⟩
    rw [span_Vote.l0, if_neg (by omega)]
  | succ d ih =>
    intro k i m b hd hi hk hI
    have hn : i < l.length := by omega
    obtain ⟨i1, i2, i3, i4⟩ := hI
    have own : 1 ≤ C l (l[i]).f0 := by
      refine List.countP_pos_iff.2 ⟨l[i], List.getElem_mem hn, ?_⟩
      have : ¬ (l[i]).f1 < (l[i]).f0 := fun g => hv ⟨_, List.getElem_mem hn, g⟩
      unfold has; exact decide_eq_true (by omega)
    rw [show k + (d + 1) + 1 = (k + d + 1) + 1 by omega, span_Vote.l0, if_pos (by omega), if_pos (by omega), if_pos (by omega), rd_at hn, count_at _ l _ (by omega) hl]
    simp only [Option.bind_some]
    rw [wl (a := (i : Int) + 1) (by omega) (by omega)]
    by_cases h1 : m < C l (l[i]).f0
    · rw [if_pos (by omega)]
      refine ih k (i + 1) (C l (l[i]).f0) (l[i]).f0 (by omega) (by omega) hk ⟨take_next hn (fun s hs => by have := i1 s hs; omega) (Nat.le_refl _), take_next hn (fun s hs e => by have := i1 s hs; omega) (fun _ => by omega), fun _ => ⟨own, rfl, ⟨_, List.getElem_mem hn, rfl⟩⟩, fun h => by omega⟩
    · rw [if_neg (by omega)]
      have hp : 0 < i := by
        rcases Nat.eq_zero_or_pos i with g | g
        · have := i4 g; omega
        · exact g
      by_cases h2 : C l (l[i]).f0 = m
      · rw [if_pos (by omega)]
        by_cases h3 : (l[i]).f0 < b
        · rw [if_pos h3, h2]
          exact ih k (i + 1) m (l[i]).f0 (by omega) (by omega) hk ⟨take_next hn i1 (by omega), take_next hn (fun s hs e => by have := i2 s hs e; omega) (fun _ => by omega), fun _ => ⟨by omega, h2, ⟨_, List.getElem_mem hn, rfl⟩⟩, fun h => by omega⟩
        · rw [if_neg h3]
          exact ih k (i + 1) m b (by omega) (by omega) hk ⟨take_next hn i1 (by omega), take_next hn i2 (fun _ => by omega), fun _ => i3 hp, fun h => by omega⟩
      · rw [if_neg (by omega)]
        exact ih k (i + 1) m b (by omega) (by omega) hk ⟨take_next hn i1 (by omega), take_next hn i2 (fun e => absurd e h2), fun _ => i3 hp, fun h => by omega⟩
/-- what the second loop has found -/
def Inv1 (l : List S68) (b : Int) (i : Nat) (T : Int) : Prop :=
  (∀ s ∈ l.take i, has b s = true → T ≤ s.f1) ∧ (∀ s ∈ l.take i, b < s.f0 → T ≤ s.f0 - 1) ∧ b ≤ T ∧ T ≤ 9223372036854775807
theorem v1_loop (l : List S68) (b : Int) (m : Nat) (hv : ¬ badL l) (hl : l.length ≤ 1000) (hr : ∀ s ∈ l, R64 s.f0 ∧ R64 s.f1) (hb : R64 b) : ∀ (d k : Nat) (i : Nat) (T : Int), l.length - i = d → i ≤ l.length → d + 1 ≤ k → Inv1 l b i T →
    ∃ T', Inv1 l b l.length T' ∧ span_Vote.l1 k m b l (l.length : Int) i b T = some (b, T', (m : Int), none) := by
  intro d
  induction d with
  | zero =>
    intro k i T hd hi hk hI
    obtain ⟨k, rfl⟩ : ∃ m, k = m + 1 := ⟨k - 1, by omega⟩
    obtain rfl : i = l.length := by omega
    refine ⟨T, hI, ?_⟩
    rw [span_Vote.l1, if_neg (by omega)]
  | succ d ih =>
    intro k i T hd hi hk hI
    obtain ⟨k, rfl⟩ : ∃ m, k = m + 1 := ⟨k - 1, by omega⟩
    have hn : i < l.length := by omega
    obtain ⟨i1, i2, i3, i4⟩ := hI
    have hs := hr _ (List.getElem_mem hn)
    rw [span_Vote.l1, if_pos (by omega), if_pos (by omega), if_pos (by omega), rd_at hn, has_eq, wl (a := (i : Int) + 1) (by omega) (by omega)]
    simp only [Option.bind_some, mn_eq]
    by_cases h : (l[i]).f0 ≤ b ∧ b ≤ (l[i]).f1
    · rw [decide_eq_true h]
      simp only [if_true]
      exact ih k (i + 1) _ (by omega) (by omega) (by omega) ⟨take_next hn (fun s hs e => by have := i1 s hs e; omega) (fun _ => by omega), take_next hn (fun s hs e => by have := i2 s hs e; omega) (fun _ => by omega), by omega, by omega⟩
    · rw [decide_eq_false h]
      simp only [Bool.false_eq_true, if_false]
      have hno : ¬ has b l[i] = true := by unfold has; simpa using h
      by_cases h2 : (l[i]).f0 > b
      · unfold R64 at hs hb
        rw [if_pos h2, R64.wrap (a := (l[i]).f0 - 1) (by unfold R64; omega)]
        exact ih k (i + 1) _ (by omega) (by omega) (by omega) ⟨take_next hn (fun s hs e => by have := i1 s hs e; omega) (fun e => absurd e hno), take_next hn (fun s hs e => by have := i2 s hs e; omega) (fun _ => by omega), by omega, by omega⟩
      · rw [if_neg h2]
        exact ih k (i + 1) _ (by omega) (by omega) (by omega) ⟨take_next hn i1 (fun e => absurd e hno), take_next hn i2 (fun e => absurd e h2), i3, i4⟩
/-- what a vote tells -/
structure Told (l : List S68) (b T : Int) (m : Nat) : Prop where
  p1 : ∀ s ∈ l, C l s.f0 ≤ m
  p2 : ∀ s ∈ l, C l s.f0 = m → b ≤ s.f0
  p3 : C l b = m
  p4 : 1 ≤ m
  p5 : ∀ s ∈ l, has b s = true → T ≤ s.f1
  p6 : ∀ s ∈ l, b < s.f0 → T ≤ s.f0 - 1
  p7 : b ≤ T
  p8 : R64 b ∧ R64 T
theorem vote_bad (k : Nat) (hk : 100 ≤ k) (l : List S68) (h : 16 < l.length ∨ badL l) : span_Vote.f k l = some (0, 0, 0, some 1) := by
  obtain ⟨k, rfl⟩ : ∃ m, k = m + 1 := ⟨k - 1, by omega⟩
  unfold span_Vote.f
  by_cases h1 : (l.length : Int) > 16
  · rw [if_pos h1]; simp [span_Vote.j0]
  · rw [if_neg h1]
    obtain ⟨b, e, hb⟩ := bad_at (k + 1) l (by omega) (by omega)
    rw [e, hb.2 (by rcases h with g | g; omega; exact g)]
    simp [span_Vote.j0]
theorem vote_none (k : Nat) (hk : 100 ≤ k) : span_Vote.f k ([] : List S68) = some (0, 0, 0, some 6) := by
  obtain ⟨k, rfl⟩ : ∃ m, k = m + 1 := ⟨k - 1, by omega⟩
  unfold span_Vote.f
  obtain ⟨b, e, hb⟩ := bad_at (k + 1) [] (by simp) (by simp)
  have : b = false := by cases b with
    | false => rfl
    | true => obtain ⟨s, hs, _⟩ := hb.1 rfl; cases hs
  rw [if_neg (by simp), e, this]
  simp [span_Vote.j0]
theorem vote_at (k : Nat) (hk : 100 ≤ k) (l : List S68) (h16 : l.length ≤ 16) (h0 : l ≠ []) (hv : ¬ badL l) (hr : ∀ s ∈ l, R64 s.f0 ∧ R64 s.f1) : ∃ (b T : Int) (m : Nat), span_Vote.f k l = some (b, T, (m : Int), none) ∧ Told l b T m := by
  have hp : 0 < l.length := List.length_pos_iff.2 h0
  obtain ⟨b0, e, hb⟩ := bad_at k l (by omega) (by omega)
  have hf : b0 = false := by cases b0 with
    | false => rfl
    | true => exact absurd (hb.1 rfl) hv
  obtain ⟨q, rfl⟩ : ∃ q, k = (q + l.length + 1) + 1 := ⟨k - l.length - 2, by omega⟩
  obtain ⟨m, b, i0, e0⟩ := v0_loop l hv (by omega) l.length q 0 0 0 (by omega) (by omega) (by omega) ⟨by simp, by simp, fun h => by omega, fun _ => rfl⟩
  obtain ⟨j1, j2, j3, j4⟩ := i0
  rw [List.take_length] at j1 j2
  obtain ⟨g1, g2, s, gs, ge⟩ := j3 hp
  have hb64 : R64 b := by rw [ge]; exact (hr s gs).1
  obtain ⟨T, i1, e1⟩ := v1_loop l b m hv (by omega) hr hb64 l.length q 0 9223372036854775807 (by omega) (by omega) (by omega) ⟨by simp, by simp, by unfold R64 at hb64; omega, by omega⟩
  obtain ⟨y1, y2, y3, y4⟩ := i1
  rw [List.take_length] at y1 y2
  refine ⟨b, T, m, ?_, ⟨j1, j2, g2, g1, y1, y2, y3, hb64, by unfold R64 at *; omega⟩⟩
  unfold span_Vote.f
  rw [if_neg (by omega), e, hf]
  simp only [Option.bind_some, span_Vote.j0]
  rw [if_neg (by simp), if_neg (by omega)]
  have e0' : span_Vote.l0 (q + l.length + 1) l 0 0 l (l.length : Int) 0 = span_Vote.l1 q (m : Int) b l (l.length : Int) 0 b 9223372036854775807 := e0
  have e1' : span_Vote.l1 q (m : Int) b l (l.length : Int) 0 b 9223372036854775807 = some (b, T, (m : Int), none) := e1
  rw [e0', e1']
/-- from where it begins to where it ends each span has all or nothing -/
theorem Told.same {l : List S68} {b T : Int} {m : Nat} (h : Told l b T m) {s : S68} (hs : s ∈ l) {p : Int} (h1 : b ≤ p) (h2 : p ≤ T) : has p s = has b s := by
  unfold has
  rw [decide_eq_decide]
  constructor
  · rintro ⟨g1, g2⟩
    by_cases c : b < s.f0
    · have := h.p6 s hs c; omega
    · exact ⟨by omega, by omega⟩
  · rintro ⟨g1, g2⟩
    have := h.p5 s hs (decide_eq_true ⟨g1, g2⟩)
    exact ⟨by omega, by omega⟩
theorem Told.most {l : List S68} {b T : Int} {m : Nat} (h : Told l b T m) (x : Int) : C l x ≤ m ∧ (C l x = m → b ≤ x) := by
  by_cases hz : C l x = 0
  · have := h.p4; exact ⟨by omega, fun e => by omega⟩
  · -- the last start among those that have it
    have top : ∀ (r : List S68), (∀ s ∈ r, s ∈ l) → 0 < r.countP (has x) → ∃ s ∈ l, has x s = true ∧ ∀ u ∈ r, has x u = true → u.f0 ≤ s.f0 := by
      intro r
      induction r with
      | nil => intro _ h; simp at h
      | cons a r ih =>
        intro hm hc
        by_cases g : 0 < r.countP (has x)
        · obtain ⟨s, s1, s2, s3⟩ := ih (fun s hs => hm s (List.mem_cons_of_mem _ hs)) g
          by_cases ha : has x a = true ∧ s.f0 < a.f0
          · exact ⟨a, hm a List.mem_cons_self, ha.1, fun u hu e => by rcases List.mem_cons.1 hu with rfl | hu; omega; have := s3 u hu e; omega⟩
          · refine ⟨s, s1, s2, fun u hu e => ?_⟩
            rcases List.mem_cons.1 hu with rfl | hu
            · have : ¬ s.f0 < u.f0 := fun g => ha ⟨e, g⟩
              omega
            · exact s3 u hu e
        · rw [List.countP_cons] at hc
          have ha : has x a = true := by cases e : has x a with
            | true => rfl
            | false => rw [e] at hc; simp at hc; exact absurd (List.countP_pos_iff.2 ⟨hc.choose, hc.choose_spec.1, hc.choose_spec.2⟩) g
          refine ⟨a, hm a List.mem_cons_self, ha, fun u hu e => ?_⟩
          rcases List.mem_cons.1 hu with rfl | hu
          · omega
          · exact absurd (List.countP_pos_iff.2 ⟨u, hu, e⟩) g
    obtain ⟨s, s1, s2, s3⟩ := top l (fun _ h => h) (by unfold C at hz; omega)
    have sx : s.f0 ≤ x := by unfold has at s2; simp at s2; omega
    have le : C l x ≤ C l s.f0 := by
      unfold C
      refine List.countP_mono_left fun u hu e => ?_
      have := s3 u hu e
      unfold has at e ⊢
      simp at e ⊢; omega
    have := h.p1 s s1
    refine ⟨by omega, fun e => ?_⟩
    have := h.p2 s s1 (by omega)
    omega
def conv (l : List S73) : List S68 := l.map fun x => ⟨x.f0, x.f1⟩
theorem rd73 {l : List S73} {i : Nat} (h : i < l.length) : rd_T73 l (i : Int) = l[i] := by
  unfold rd_T73
  simp [List.getD_eq_getElem?_getD, List.getElem?_eq_getElem h]
theorem give_loop : ∀ (d k : Nat) (l : List S73) (i : Nat), l.length - i = d → i ≤ l.length → d + 1 ≤ k → l.length ≤ 8796093022208 → fuseelaw13_give.l0 k l (conv (l.take i)) i = some (conv l) := by
  intro d
  induction d with
  | zero =>
    intro k l i hd hi hk hl
    obtain ⟨k, rfl⟩ : ∃ m, k = m + 1 := ⟨k - 1, by omega⟩
    obtain rfl : i = l.length := by omega
    rw [fuseelaw13_give.l0, if_neg (by omega), List.take_length]
  | succ d ih =>
    intro k l i hd hi hk hl
    obtain ⟨k, rfl⟩ : ∃ m, k = m + 1 := ⟨k - 1, by omega⟩
    have hn : i < l.length := by omega
    have hc : (conv (l.take i)).length = i := by unfold conv; simp; omega
    rw [fuseelaw13_give.l0, if_pos (by omega), if_pos (by omega), if_pos (by omega), wl (a := (i : Int) + 1) (by omega) (by omega), rd73 hn]
    have := ih k l (i + 1) (by omega) (by omega) (by omega) hl
    rw [List.take_succ_eq_append_getElem hn] at this
    unfold conv at this ⊢
    rw [List.map_append] at this
    exact this
theorem give_at (k : Nat) (l : List S73) (hk : l.length + 1 ≤ k) (hl : l.length ≤ 8796093022208) : fuseelaw13_give.f k l = some (conv l) := by
  have := give_loop l.length k l 0 (by omega) (by omega) hk hl
  unfold fuseelaw13_give.f
  simpa [conv] using this

theorem sure_at (k : Nat) (hk : 60 ≤ k) : fuseelaw13_sure.f k = some true :=
  at_rounds (g := fuseelaw13_sure.f) (fun k => fuseelaw13_sure.mono k) hk (by decide +kernel)
theorem law_loop (l : List S68) (hl : l.length ≤ 16) (x p b T : Int) (m : Nat) (h : Told l b T m) (h1 : b ≤ p) (h2 : p ≤ T) : ∀ (d k : Nat) (i c e : Nat), l.length - i = d → i ≤ l.length → 2 * d + 100 ≤ k →
    c + (l.drop i).countP (has b) = m → e + (l.drop i).countP (has x) = C l x → c ≤ i → e ≤ i → fuseelaw13_SpanMost.l0 k x l m c e p i b T = some true := by
  intro d
  induction d with
  | zero =>
    intro k i c e hd hi hk hc he _ _
    obtain ⟨k, rfl⟩ : ∃ m, k = m + 1 := ⟨k - 1, by omega⟩
    obtain rfl : i = l.length := by omega
    rw [List.drop_length] at hc he
    simp at hc he
    have M := h.most x
    have := h.p7
    rw [fuseelaw13_SpanMost.l0, if_neg (by omega), if_pos (by omega), if_pos (by omega), if_pos (by omega)]
    rw [sure_at k (by omega)]
    by_cases g : (e : Int) = m
    · rw [if_pos g, if_pos (by have := M.2 (by omega); omega)]; rfl
    · rw [if_neg g]; rfl
  | succ d ih =>
    intro k i c e hd hi hk hc he lc le
    obtain ⟨k, rfl⟩ : ∃ m, k = m + 2 := ⟨k - 2, by omega⟩
    have hn : i < l.length := by omega
    have hm := List.getElem_mem hn
    have sp := h.same hm h1 h2
    have sT := h.same hm h.p7 (Int.le_refl _)
    rw [drop_at hn, List.countP_cons] at hc he
    have hb : decide ((l[i]).f0 ≤ b ∧ b ≤ (l[i]).f1) = has b l[i] := rfl
    have hp : decide ((l[i]).f0 ≤ p ∧ p ≤ (l[i]).f1) = has b l[i] := sp
    have hT : decide ((l[i]).f0 ≤ T ∧ T ≤ (l[i]).f1) = has b l[i] := sT
    have hx : decide ((l[i]).f0 ≤ x ∧ x ≤ (l[i]).f1) = has x l[i] := rfl
    rw [fuseelaw13_SpanMost.l0, if_pos (by omega), if_pos (by omega)]
    simp only [rd_at hn, has_eq, Option.bind_some, hb, hp, hT, bne_self_eq_false, Bool.false_eq_true, if_false, fuseelaw13_SpanMost.j4]
    rw [if_pos (by omega), if_pos (by omega), wl (a := (i : Int) + 1) (by omega) (by omega), hx, wl (a := (c : Int) + 1) (by omega) (by omega), wl (a := (e : Int) + 1) (by omega) (by omega)]
    cases g1 : has b l[i] <;> cases g2 : has x l[i] <;> rw [g1] at hc <;> rw [g2] at he <;> simp only [if_true, Bool.false_eq_true, if_false] at hc he ⊢
    · exact ih k (i + 1) c e (by omega) (by omega) (by omega) (by omega) (by omega) (by omega) (by omega)
    · exact ih k (i + 1) c (e + 1) (by omega) (by omega) (by omega) (by omega) (by omega) (by omega) (by omega)
    · exact ih k (i + 1) (c + 1) e (by omega) (by omega) (by omega) (by omega) (by omega) (by omega) (by omega)
    · exact ih k (i + 1) (c + 1) (e + 1) (by omega) (by omega) (by omega) (by omega) (by omega) (by omega) (by omega)
theorem law (l : List S73) (x y : Int) (hl : l.length ≤ 8796093022208) (hr : ∀ s ∈ l, R64 s.f0 ∧ R64 s.f1) (hy : 0 ≤ y ∧ y ≤ 65535) (k : Nat) (hk : l.length + 400 ≤ k) : fuseelaw13_SpanMost.f k l x y = some true := by
  obtain ⟨k, rfl⟩ : ∃ m, k = m + 3 := ⟨k - 3, by omega⟩
  have hc : (conv l).length = l.length := by unfold conv; simp
  have hr2 : ∀ s ∈ conv l, R64 s.f0 ∧ R64 s.f1 := by
    intro s hs
    unfold conv at hs
    obtain ⟨u, hu, rfl⟩ := List.mem_map.1 hs
    exact hr u hu
  unfold fuseelaw13_SpanMost.f
  rw [give_at _ l (by omega) hl]
  simp only [Option.bind_some]
  by_cases h16 : (l.length : Int) > 16
  · rw [vote_bad _ (by omega) _ (Or.inl (by omega))]
    simp only [Option.bind_some]
    rw [if_pos h16]
    simp only [fuseelaw13_SpanMost.j0, if_true]
    rw [if_pos h16, sure_at _ (by omega)]; rfl
  · by_cases hv : badL (conv l)
    · rw [vote_bad _ (by omega) _ (Or.inr hv)]
      simp only [Option.bind_some]
      rw [if_neg h16]
      simp only [fuseelaw13_SpanMost.j0, Option.isNone_some, Bool.false_eq_true, if_false, if_true]
      rw [if_neg h16]
      simp only [fuseelaw13_num.f, numE, Option.bind_some, Option.getD_some]
      rw [if_pos trivial, sure_at _ (by omega)]; rfl
    · by_cases h0 : conv l = []
      · rw [h0, vote_none _ (by omega)]
        simp only [Option.bind_some]
        rw [if_neg h16]
        simp only [fuseelaw13_SpanMost.j0, Option.isNone_some, Bool.false_eq_true, if_false, if_true]
        rw [if_neg h16]
        simp only [fuseelaw13_num.f, numE, Option.bind_some, Option.getD_some]
        rw [if_neg (by decide), if_pos trivial, sure_at _ (by omega)]; rfl
      · obtain ⟨b, T, m, e, h⟩ := vote_at (k + 3) (by omega) (conv l) (by omega) h0 hv hr2
        rw [e]
        simp only [Option.bind_some]
        rw [if_neg h16]
        simp only [Option.isNone_none, if_true, fuseelaw13_SpanMost.j0, Bool.false_eq_true, if_false]
        have h7 := h.p7
        have h8 := h.p8
        unfold R64 at h8
        have fin : ∀ p, b ≤ p → p ≤ T → fuseelaw13_SpanMost.j2 (k + 1) x (conv l) m 0 0 p b T = some true := by
          intro p g1 g2
          simp only [fuseelaw13_SpanMost.j2]
          exact law_loop (conv l) (by omega) x p b T m h g1 g2 (conv l).length k 0 0 0 (by omega) (by omega) (by omega) (by simpa [C] using h.p3) (by simp [C]) (by omega) (by omega)
        rw [wl (a := y) (by omega) (by omega)]
        have J : ∀ q : Bool, (q = true → y ≤ wrap64 (T - b) ∧ 0 < wrap64 (T - b)) → fuseelaw13_SpanMost.j1 (k + 2) x y (conv l) m 0 0 b q b T = some true := by
          intro q hq
          simp only [fuseelaw13_SpanMost.j1]
          cases q with
          | false => rw [if_neg (by simp)]; exact fin b (Int.le_refl _) h7
          | true =>
            have hq := hq rfl
            have hw : wrap64 (T - b) = T - b := by unfold wrap64 at hq ⊢; omega
            rw [hw] at hq
            rw [if_pos rfl, wl (a := y) (by omega) (by omega), R64.wrap (a := b + y) (by unfold R64; omega)]
            exact fin _ (by omega) (by omega)
        by_cases g : y ≤ wrap64 (T - b)
        · rw [if_pos g]; exact J _ (fun q => ⟨g, by simpa using q⟩)
        · rw [if_neg g]; exact J false (fun q => by cases q)
theorem done (l : List S73) (x y : Int) (hl : l.length ≤ 8796093021952) (hr : ∀ s ∈ l, (Lit.int .i64 s.f0).wf = true ∧ (Lit.int .i64 s.f1).wf = true) (hx : (Lit.int .i64 x).wf = true) (hy : (Lit.int .u16 y).wf = true) : ∃ k, fuseelaw13_SpanMost.f k l x y = some true :=
  ⟨l.length + 400, law l x y (by omega) (fun s hs => ⟨R64.of_wf (hr s hs).1, R64.of_wf (hr s hs).2⟩) (bounds_u16 hy) _ (Nat.le_refl _)⟩
end Go.Proofs.YtfipgpfmlkfkfaaDoor.MSpanMost
