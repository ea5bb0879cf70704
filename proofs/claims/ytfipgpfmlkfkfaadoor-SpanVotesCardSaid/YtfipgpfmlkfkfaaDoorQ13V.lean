/-
  SpanVotes in plain numbers.
-/
import Derived.Test.YtfipgpfmlkfkfaaDoorK
import Derived.Test.YtfipgpfmlkfkfaaDoorAvg
import Derived.Test.YtfipgpfmlkfkfaaDoorMSpanVotesx
namespace Go.Proofs.YtfipgpfmlkfkfaaDoor.MSpanVotes
open Go.RowKit Go.Proofs.YtfipgpfmlkfkfaaDoorW.PrintWords Go.Proofs.YtfipgpfmlkfkfaaDoorW.PrintMore
set_option linter.unusedVariables false
set_option linter.unusedSimpArgs false

/-- the printed error is the error as a value -/
theorem errW_errV (o : Option Int) : errW o = errV o := by cases o <;> rfl
theorem pSub (a b : Int) (ha : R64 a) (hb : R64 b) : num_Sub.f a b = some (if R64 (a - b) then (a - b, none) else (0, some 2)) := by
  unfold num_Sub.f
  by_cases h : R64 (a - b)
  · rw [if_pos h, h.wrap, if_neg]
    unfold R64 at *
    by_cases h0 : b < 0 <;> simp [h0] <;> omega
  · rw [if_neg h, if_pos]
    unfold R64 at *
    by_cases h0 : b < 0
    · have : ¬ wrap64 (a - b) > a := by unfold wrap64; omega
      simp [h0]; omega
    · have : wrap64 (a - b) > a := by unfold wrap64; omega
      simp [h0]; omega
theorem pSubSat (a b : Int) (ha : R64 a) (hb : R64 b) : num_SubSat.f a b = some (sat (a - b)) := by
  unfold num_SubSat.f num_edge.f
  rw [pSub a b ha hb]
  by_cases h : R64 (a - b)
  · rw [if_pos h, sat_of h]; rfl
  · rw [if_neg h]
    unfold R64 at *
    by_cases h0 : b > 0
    · simp [h0]; unfold sat; rw [if_pos (by omega)]
    · simp [h0]; unfold sat; rw [if_neg (by omega), if_pos (by omega)]

theorem mx_eq (a b : Int) : mx a b = max a b := by unfold mx; omega
theorem mn_eq (a b : Int) : mn a b = min a b := by unfold mn; omega
theorem has_eq (a b n : Int) : span_Has.f a b n = some (decide (a ≤ n ∧ n ≤ b)) := by
  unfold span_Has.f
  split
  · congr 1; rw [decide_eq_decide]; omega
  · rw [decide_eq_false (by omega)]
theorem pcheck_eq (a b : Int) : span_Check.f a b = some (if a ≤ b then none else some 1) := by
  unfold span_Check.f
  split
  · rw [if_neg (by omega)]
  · rw [if_pos (by omega)]
/-- what two spans have together -/
def meetR (a b c d : Int) : Int × Int × Bool := if a ≤ b ∧ c ≤ d ∧ max a c ≤ min b d then (max a c, min b d, true) else (0, 0, false)
theorem meet_eq (a b c d : Int) : span_Meet.f a b c d = some (meetR a b c d) := by
  unfold span_Meet.f meetR
  simp only [pcheck_eq, mx_eq, mn_eq, Option.bind_some]
  by_cases h1 : a ≤ b
  · rw [if_pos h1]
    simp only [Option.isNone_none, if_true]
    by_cases h2 : c ≤ d
    · rw [if_pos h2]
      simp only [Option.isNone_none, if_true]
      by_cases h3 : max a c ≤ min b d
      · rw [if_pos h3, if_pos (show a ≤ b ∧ c ≤ d ∧ max a c ≤ min b d from ⟨h1, h2, h3⟩)]; simp
      · rw [if_neg h3, if_neg (show ¬ (a ≤ b ∧ c ≤ d ∧ max a c ≤ min b d) from fun h => h3 h.2.2)]; simp
    · rw [if_neg h2, if_neg (show ¬ (a ≤ b ∧ c ≤ d ∧ max a c ≤ min b d) from fun h => h2 h.2.1)]; simp
  · rw [if_neg h1, if_neg (show ¬ (a ≤ b ∧ c ≤ d ∧ max a c ≤ min b d) from fun h => h1 h.1)]; simp
theorem mid_eq (a b : Int) (ha : R64 a) (hb : R64 b) : span_Mid.f a b = some (if a ≤ b then ((a + b) / 2, sat (b - (a + b) / 2), none) else (0, 0, some 1)) := by
  unfold span_Mid.f
  rw [pcheck_eq]
  simp only [Option.bind_some]
  obtain ⟨m1, m2⟩ := mid_bits ha hb
  have m3 : R64 ((a + b) / 2) := by unfold R64 at *; omega
  rw [m1, m3.wrap]
  by_cases h : a ≤ b
  · rw [if_pos h, if_pos h]
    simp only [Option.isNone_none, if_true]
    rw [pSubSat _ _ hb m3]; simp
  · rw [if_neg h, if_neg h]; simp

theorem wl {a : Int} (h0 : 0 ≤ a) (h : a < 9223372036854775807) : wrap64 a = a := R64.wrap (by unfold R64; omega)
theorem rd_at {l : List S68} {i : Nat} (h : i < l.length) : rd_T68 l (i : Int) = l[i] := by
  unfold rd_T68
  simp [List.getD_eq_getElem?_getD, List.getElem?_eq_getElem h]
/-- does a span have a moment? -/
def has (x : Int) (s : S68) : Bool := decide (s.f0 ≤ x ∧ x ≤ s.f1)
def C (l : List S68) (x : Int) : Nat := l.countP (has x)
theorem drop_at {l : List S68} {i : Nat} (h : i < l.length) : l.drop i = l[i] :: l.drop (i + 1) := List.drop_eq_getElem_cons h
theorem count_loop : ∀ (d k : Nat) (x : Int) (l : List S68) (i c : Nat), l.length - i = d → i ≤ l.length → d + 1 ≤ k → l.length ≤ 1000 → c ≤ i →
    span_count.l0 k x c l (l.length : Int) i = some ((c + (l.drop i).countP (has x) : Nat) : Int) := by
  intro d
  induction d with
  | zero =>
    intro k x l i c hd hi hk hl hc
    obtain ⟨k, rfl⟩ : ∃ m, k = m + 1 := ⟨k - 1, by omega⟩
    obtain rfl : i = l.length := by omega
    rw [span_count.l0, if_neg (by omega)]; simp
  | succ d ih =>
    intro k x l i c hd hi hk hl hc
    obtain ⟨k, rfl⟩ : ∃ m, k = m + 1 := ⟨k - 1, by omega⟩
    have hn : i < l.length := by omega
    rw [span_count.l0, if_pos (by omega), if_pos (by omega), if_pos (by omega), has_eq, rd_at hn, wl (a := (i : Int) + 1) (by omega) (by omega), drop_at hn, List.countP_cons]
    simp only [Option.bind_some]
    have e : decide ((l[i]).f0 ≤ x ∧ x ≤ (l[i]).f1) = has x l[i] := rfl
    rw [e]
    cases hb : has x l[i] with
    | true =>
      simp only [if_true]
      rw [wl (a := (c : Int) + 1) (by omega) (by omega)]
      have := ih k x l (i + 1) (c + 1) (by omega) (by omega) (by omega) hl (by omega)
      rw [show c + (List.countP (has x) (l.drop (i + 1)) + 1) = c + 1 + List.countP (has x) (l.drop (i + 1)) by omega]
      exact this
    | false =>
      simp only [Bool.false_eq_true, if_false, Nat.add_zero]
      exact ih k x l (i + 1) c (by omega) (by omega) (by omega) hl (by omega)
theorem count_at (k : Nat) (l : List S68) (x : Int) (hk : l.length + 1 ≤ k) (hl : l.length ≤ 1000) : span_count.f k l x = some (C l x : Int) := by
  have := count_loop l.length k x l 0 0 (by omega) (by omega) hk hl (by omega)
  unfold span_count.f
  simpa [C] using this
/-- a span that begins after it ends -/
def badL (l : List S68) : Prop := ∃ s ∈ l, s.f1 < s.f0
theorem bad_loop : ∀ (d k : Nat) (l : List S68) (i : Nat), l.length - i = d → i ≤ l.length → d + 1 ≤ k → l.length ≤ 1000 →
    ∃ r, span_Span_87_at69.l0 k l (l.length : Int) i = some r ∧ (0 ≤ r ↔ ∃ s ∈ l.drop i, s.f1 < s.f0) := by
  intro d
  induction d with
  | zero =>
    intro k l i hd hi hk hl
    obtain ⟨k, rfl⟩ : ∃ m, k = m + 1 := ⟨k - 1, by omega⟩
    obtain rfl : i = l.length := by omega
    refine ⟨-1, ?_, ?_⟩
    · rw [span_Span_87_at69.l0, if_neg (by omega)]
    · simp
  | succ d ih =>
    intro k l i hd hi hk hl
    obtain ⟨k, rfl⟩ : ∃ m, k = m + 1 := ⟨k - 1, by omega⟩
    have hn : i < l.length := by omega
    rw [span_Span_87_at69.l0, if_pos (by omega), if_pos (by omega), if_pos (by omega), rd_at hn, drop_at hn]
    unfold span_Vote_1.f
    rw [pcheck_eq]
    simp only [Option.bind_some]
    by_cases h : (l[i]).f0 ≤ (l[i]).f1
    · rw [if_pos h]
      simp only [Option.isNone_none, if_true, Option.bind_some, Bool.false_eq_true, if_false]
      rw [wl (a := (i : Int) + 1) (by omega) (by omega)]
      obtain ⟨r, e, hr⟩ := ih k l (i + 1) (by omega) (by omega) (by omega) hl
      refine ⟨r, e, hr.trans ?_⟩
      simp only [List.mem_cons, exists_eq_or_imp]
      constructor
      · exact Or.inr
      · rintro (g | g)
        · omega
        · exact g
    · rw [if_neg h]
      simp only [Option.isNone_some, Bool.false_eq_true, if_false, Option.bind_some, if_true]
      exact ⟨_, rfl, ⟨fun _ => ⟨_, List.mem_cons_self, by omega⟩, fun _ => by omega⟩⟩
theorem bad_at (k : Nat) (l : List S68) (hk : l.length + 1 ≤ k) (hl : l.length ≤ 1000) : ∃ b, span_Span_70_at69.f k l = some b ∧ (b = true ↔ badL l) := by
  obtain ⟨r, e, hr⟩ := bad_loop l.length k l 0 (by omega) (by omega) hk hl
  unfold span_Span_70_at69.f span_Span_87_at69.f
  rw [show ((0 : Int)) = ((0 : Nat) : Int) from rfl, e]
  refine ⟨_, rfl, ?_⟩
  rw [decide_eq_true_eq]
  simpa [badL] using hr
/-- a span begins there -/
def isStart (l : List S68) (b : Int) : Prop := ∃ s ∈ l, b = s.f0
/-- what the first loop has found -/
def Inv0 (l : List S68) (i m : Nat) (b : Int) : Prop :=
  (∀ s ∈ l.take i, C l s.f0 ≤ m) ∧ (∀ s ∈ l.take i, C l s.f0 = m → b ≤ s.f0) ∧ (0 < i → 1 ≤ m ∧ C l b = m ∧ isStart l b) ∧ (i = 0 → m = 0)
theorem take_next {l : List S68} {i : Nat} (h : i < l.length) {p : S68 → Prop} (h1 : ∀ s ∈ l.take i, p s) (h2 : p l[i]) : ∀ s ∈ l.take (i + 1), p s := by
  intro s hs
  rw [List.take_succ_eq_append_getElem h] at hs
  rcases List.mem_append.1 hs with g | g
  · exact h1 s g
  · simp at g; subst g; exact h2
theorem v0_loop (l : List S68) (hv : ¬ badL l) (hl : l.length ≤ 1000) : ∀ (d k : Nat) (i m : Nat) (b : Int), l.length - i = d → i ≤ l.length → l.length + 1 ≤ k → Inv0 l i m b →
    ∃ m' b', Inv0 l l.length m' b' ∧ span_Vote.l0 (k + d + 1) l m b l (l.length : Int) i = span_Vote.l1 k m' b' l (l.length : Int) 0 b' 9223372036854775807 := by
  intro d
  induction d with
  | zero =>
    intro k i m b hd hi hk hI
    obtain rfl : i = l.length := by omega
    refine ⟨m, b, hI, ?_⟩
    rw [span_Vote.l0, if_neg (by omega)]
  | succ d ih =>
    intro k i m b hd hi hk hI
    have hn : i < l.length := by omega
    obtain ⟨i1, i2, i3, i4⟩ := hI
    have own : 1 ≤ C l (l[i]).f0 := by
      refine List.countP_pos_iff.2 ⟨l[i], List.getElem_mem hn, ?_⟩
      have : ¬ (l[i]).f1 < (l[i]).f0 := fun g => hv ⟨_, List.getElem_mem hn, g⟩
      unfold has; exact decide_eq_true (by omega)
    rw [show k + (d + 1) + 1 = (k + d + 1) + 1 by omega, span_Vote.l0, if_pos (by omega), if_pos (by omega), if_pos (by omega), rd_at hn, count_at _ l _ (by omega) hl]
    simp only [Option.bind_some]
    rw [wl (a := (i : Int) + 1) (by omega) (by omega)]
    by_cases h1 : m < C l (l[i]).f0
    · rw [if_pos (by omega)]
      refine ih k (i + 1) (C l (l[i]).f0) (l[i]).f0 (by omega) (by omega) hk ⟨take_next hn (fun s hs => by have := i1 s hs; omega) (Nat.le_refl _), take_next hn (fun s hs e => by have := i1 s hs; omega) (fun _ => by omega), fun _ => ⟨own, rfl, ⟨_, List.getElem_mem hn, rfl⟩⟩, fun h => by omega⟩
    · rw [if_neg (by omega)]
      have hp : 0 < i := by
        rcases Nat.eq_zero_or_pos i with g | g
        · have := i4 g; omega
        · exact g
      by_cases h2 : C l (l[i]).f0 = m
      · rw [if_pos (by omega)]
        by_cases h3 : (l[i]).f0 < b
        · rw [if_pos h3, h2]
          exact ih k (i + 1) m (l[i]).f0 (by omega) (by omega) hk ⟨take_next hn i1 (by omega), take_next hn (fun s hs e => by have := i2 s hs e; omega) (fun _ => by omega), fun _ => ⟨by omega, h2, ⟨_, List.getElem_mem hn, rfl⟩⟩, fun h => by omega⟩
        · rw [if_neg h3]
          exact ih k (i + 1) m b (by omega) (by omega) hk ⟨take_next hn i1 (by omega), take_next hn i2 (fun _ => by omega), fun _ => i3 hp, fun h => by omega⟩
      · rw [if_neg (by omega)]
        exact ih k (i + 1) m b (by omega) (by omega) hk ⟨take_next hn i1 (by omega), take_next hn i2 (fun e => absurd e h2), fun _ => i3 hp, fun h => by omega⟩
/-- what the second loop has found -/
def Inv1 (l : List S68) (b : Int) (i : Nat) (T : Int) : Prop :=
  (∀ s ∈ l.take i, has b s = true → T ≤ s.f1) ∧ (∀ s ∈ l.take i, b < s.f0 → T ≤ s.f0 - 1) ∧ b ≤ T ∧ T ≤ 9223372036854775807 ∧ ∀ U, (∀ s ∈ l, has b s = true → U ≤ s.f1) → (∀ s ∈ l, b < s.f0 → U ≤ s.f0 - 1) → U ≤ 9223372036854775807 → U ≤ T
theorem v1_loop (l : List S68) (b : Int) (m : Nat) (hv : ¬ badL l) (hl : l.length ≤ 1000) (hr : ∀ s ∈ l, R64 s.f0 ∧ R64 s.f1) (hb : R64 b) : ∀ (d k : Nat) (i : Nat) (T : Int), l.length - i = d → i ≤ l.length → d + 1 ≤ k → Inv1 l b i T →
    ∃ T', Inv1 l b l.length T' ∧ span_Vote.l1 k m b l (l.length : Int) i b T = some (b, T', (m : Int), none) := by
  intro d
  induction d with
  | zero =>
    intro k i T hd hi hk hI
    obtain ⟨k, rfl⟩ : ∃ m, k = m + 1 := ⟨k - 1, by omega⟩
    obtain rfl : i = l.length := by omega
    refine ⟨T, hI, ?_⟩
    rw [span_Vote.l1, if_neg (by omega)]
  | succ d ih =>
    intro k i T hd hi hk hI
    obtain ⟨k, rfl⟩ : ∃ m, k = m + 1 := ⟨k - 1, by omega⟩
    have hn : i < l.length := by omega
    obtain ⟨i1, i2, i3, i4, i5⟩ := hI
    have hm := List.getElem_mem hn
    have hs := hr _ (List.getElem_mem hn)
    rw [span_Vote.l1, if_pos (by omega), if_pos (by omega), if_pos (by omega), rd_at hn, has_eq, wl (a := (i : Int) + 1) (by omega) (by omega)]
    simp only [Option.bind_some, mn_eq]
    by_cases h : (l[i]).f0 ≤ b ∧ b ≤ (l[i]).f1
    · rw [decide_eq_true h]
      simp only [if_true]
      exact ih k (i + 1) _ (by omega) (by omega) (by omega) ⟨take_next hn (fun s hs e => by have := i1 s hs e; omega) (fun _ => by omega), take_next hn (fun s hs e => by have := i2 s hs e; omega) (fun _ => by omega), by omega, by omega, fun U u1 u2 u3 => by have := i5 U u1 u2 u3; have := u1 _ hm (decide_eq_true h); omega⟩
    · rw [decide_eq_false h]
      simp only [Bool.false_eq_true, if_false]
      have hno : ¬ has b l[i] = true := by unfold has; simpa using h
      by_cases h2 : (l[i]).f0 > b
      · unfold R64 at hs hb
        rw [if_pos h2, R64.wrap (a := (l[i]).f0 - 1) (by unfold R64; omega)]
        exact ih k (i + 1) _ (by omega) (by omega) (by omega) ⟨take_next hn (fun s hs e => by have := i1 s hs e; omega) (fun e => absurd e hno), take_next hn (fun s hs e => by have := i2 s hs e; omega) (fun _ => by omega), by omega, by omega, fun U u1 u2 u3 => by have := i5 U u1 u2 u3; have := u2 _ hm h2; omega⟩
      · rw [if_neg h2]
        exact ih k (i + 1) _ (by omega) (by omega) (by omega) ⟨take_next hn i1 (fun e => absurd e hno), take_next hn i2 (fun e => absurd e h2), i3, i4, i5⟩
/-- what a vote tells -/
structure Told (l : List S68) (b T : Int) (m : Nat) : Prop where
  p1 : ∀ s ∈ l, C l s.f0 ≤ m
  p2 : ∀ s ∈ l, C l s.f0 = m → b ≤ s.f0
  p3 : C l b = m
  p4 : 1 ≤ m
  p5 : ∀ s ∈ l, has b s = true → T ≤ s.f1
  p6 : ∀ s ∈ l, b < s.f0 → T ≤ s.f0 - 1
  p7 : b ≤ T
  p8 : R64 b ∧ R64 T
theorem vote_bad (k : Nat) (hk : 100 ≤ k) (l : List S68) (h : 16 < l.length ∨ badL l) : span_Vote.f k l = some (0, 0, 0, some 1) := by
  obtain ⟨k, rfl⟩ : ∃ m, k = m + 1 := ⟨k - 1, by omega⟩
  unfold span_Vote.f
  by_cases h1 : (l.length : Int) > 16
  · rw [if_pos h1]; simp [span_Vote.j0]
  · rw [if_neg h1]
    obtain ⟨b, e, hb⟩ := bad_at (k + 1) l (by omega) (by omega)
    rw [e, hb.2 (by rcases h with g | g; omega; exact g)]
    simp [span_Vote.j0]
theorem vote_none (k : Nat) (hk : 100 ≤ k) : span_Vote.f k ([] : List S68) = some (0, 0, 0, some 6) := by
  obtain ⟨k, rfl⟩ : ∃ m, k = m + 1 := ⟨k - 1, by omega⟩
  unfold span_Vote.f
  obtain ⟨b, e, hb⟩ := bad_at (k + 1) [] (by simp) (by simp)
  have : b = false := by cases b with
    | false => rfl
    | true => obtain ⟨s, hs, _⟩ := hb.1 rfl; cases hs
  rw [if_neg (by simp), e, this]
  simp [span_Vote.j0]
theorem vote_at (k : Nat) (hk : 100 ≤ k) (l : List S68) (h16 : l.length ≤ 16) (h0 : l ≠ []) (hv : ¬ badL l) (hr : ∀ s ∈ l, R64 s.f0 ∧ R64 s.f1) : ∃ (b T : Int) (m : Nat), span_Vote.f k l = some (b, T, (m : Int), none) ∧ Told l b T m ∧ isStart l b ∧ ∀ U, (∀ s ∈ l, has b s = true → U ≤ s.f1) → (∀ s ∈ l, b < s.f0 → U ≤ s.f0 - 1) → U ≤ 9223372036854775807 → U ≤ T := by
  have hp : 0 < l.length := List.length_pos_iff.2 h0
  obtain ⟨b0, e, hb⟩ := bad_at k l (by omega) (by omega)
  have hf : b0 = false := by cases b0 with
    | false => rfl
    | true => exact absurd (hb.1 rfl) hv
  obtain ⟨q, rfl⟩ : ∃ q, k = (q + l.length + 1) + 1 := ⟨k - l.length - 2, by omega⟩
  obtain ⟨m, b, i0, e0⟩ := v0_loop l hv (by omega) l.length q 0 0 0 (by omega) (by omega) (by omega) ⟨by simp, by simp, fun h => by omega, fun _ => rfl⟩
  obtain ⟨j1, j2, j3, j4⟩ := i0
  rw [List.take_length] at j1 j2
  obtain ⟨g1, g2, s, gs, ge⟩ := j3 hp
  have hb64 : R64 b := by rw [ge]; exact (hr s gs).1
  obtain ⟨T, i1, e1⟩ := v1_loop l b m hv (by omega) hr hb64 l.length q 0 9223372036854775807 (by omega) (by omega) (by omega) ⟨by simp, by simp, by unfold R64 at hb64; omega, by omega, fun U _ _ h => h⟩
  obtain ⟨y1, y2, y3, y4, y5⟩ := i1
  rw [List.take_length] at y1 y2
  refine ⟨b, T, m, ?_, ⟨j1, j2, g2, g1, y1, y2, y3, hb64, by unfold R64 at *; omega⟩, ⟨s, gs, ge⟩, y5⟩
  unfold span_Vote.f
  rw [if_neg (by omega), e, hf]
  simp only [Option.bind_some, span_Vote.j0]
  rw [if_neg (by simp), if_neg (by omega)]
  have e0' : span_Vote.l0 (q + l.length + 1) l 0 0 l (l.length : Int) 0 = span_Vote.l1 q (m : Int) b l (l.length : Int) 0 b 9223372036854775807 := e0
  have e1' : span_Vote.l1 q (m : Int) b l (l.length : Int) 0 b 9223372036854775807 = some (b, T, (m : Int), none) := e1
  rw [e0', e1']
/-- from where it begins to where it ends each span has all or nothing -/
theorem Told.same {l : List S68} {b T : Int} {m : Nat} (h : Told l b T m) {s : S68} (hs : s ∈ l) {p : Int} (h1 : b ≤ p) (h2 : p ≤ T) : has p s = has b s := by
  unfold has
  rw [decide_eq_decide]
  constructor
  · rintro ⟨g1, g2⟩
    by_cases c : b < s.f0
    · have := h.p6 s hs c; omega
    · exact ⟨by omega, by omega⟩
  · rintro ⟨g1, g2⟩
    have := h.p5 s hs (decide_eq_true ⟨g1, g2⟩)
    exact ⟨by omega, by omega⟩
theorem Told.most {l : List S68} {b T : Int} {m : Nat} (h : Told l b T m) (x : Int) : C l x ≤ m ∧ (C l x = m → b ≤ x) := by
  by_cases hz : C l x = 0
  · have := h.p4; exact ⟨by omega, fun e => by omega⟩
  · -- the last start among those that have it
    have top : ∀ (r : List S68), (∀ s ∈ r, s ∈ l) → 0 < r.countP (has x) → ∃ s ∈ l, has x s = true ∧ ∀ u ∈ r, has x u = true → u.f0 ≤ s.f0 := by
      intro r
      induction r with
      | nil => intro _ h; simp at h
      | cons a r ih =>
        intro hm hc
        by_cases g : 0 < r.countP (has x)
        · obtain ⟨s, s1, s2, s3⟩ := ih (fun s hs => hm s (List.mem_cons_of_mem _ hs)) g
          by_cases ha : has x a = true ∧ s.f0 < a.f0
          · exact ⟨a, hm a List.mem_cons_self, ha.1, fun u hu e => by rcases List.mem_cons.1 hu with rfl | hu; omega; have := s3 u hu e; omega⟩
          · refine ⟨s, s1, s2, fun u hu e => ?_⟩
            rcases List.mem_cons.1 hu with rfl | hu
            · have : ¬ s.f0 < u.f0 := fun g => ha ⟨e, g⟩
              omega
            · exact s3 u hu e
        · rw [List.countP_cons] at hc
          have ha : has x a = true := by cases e : has x a with
            | true => rfl
            | false => rw [e] at hc; simp at hc; exact absurd (List.countP_pos_iff.2 ⟨hc.choose, hc.choose_spec.1, hc.choose_spec.2⟩) g
          refine ⟨a, hm a List.mem_cons_self, ha, fun u hu e => ?_⟩
          rcases List.mem_cons.1 hu with rfl | hu
          · omega
          · exact absurd (List.countP_pos_iff.2 ⟨u, hu, e⟩) g
    obtain ⟨s, s1, s2, s3⟩ := top l (fun _ h => h) (by unfold C at hz; omega)
    have sx : s.f0 ≤ x := by unfold has at s2; simp at s2; omega
    have le : C l x ≤ C l s.f0 := by
      unfold C
      refine List.countP_mono_left fun u hu e => ?_
      have := s3 u hu e
      unfold has at e ⊢
      simp at e ⊢; omega
    have := h.p1 s s1
    refine ⟨by omega, fun e => ?_⟩
    have := h.p2 s s1 (by omega)
    omega
def conv (l : List S73) : List S68 := l.map fun x => ⟨x.f0, x.f1⟩
theorem rd73 {l : List S73} {i : Nat} (h : i < l.length) : rd_T73 l (i : Int) = l[i] := by
  unfold rd_T73
  simp [List.getD_eq_getElem?_getD, List.getElem?_eq_getElem h]
theorem give_loop : ∀ (d k : Nat) (l : List S73) (i : Nat), l.length - i = d → i ≤ l.length → d + 1 ≤ k → l.length ≤ 8796093022208 → fuseelaw13_give.l0 k l (conv (l.take i)) i = some (conv l) := by
  intro d
  induction d with
  | zero =>
    intro k l i hd hi hk hl
    obtain ⟨k, rfl⟩ : ∃ m, k = m + 1 := ⟨k - 1, by omega⟩
    obtain rfl : i = l.length := by omega
    rw [fuseelaw13_give.l0, if_neg (by omega), List.take_length]
  | succ d ih =>
    intro k l i hd hi hk hl
    obtain ⟨k, rfl⟩ : ∃ m, k = m + 1 := ⟨k - 1, by omega⟩
    have hn : i < l.length := by omega
    have hc : (conv (l.take i)).length = i := by unfold conv; simp; omega
    rw [fuseelaw13_give.l0, if_pos (by omega), if_pos (by omega), if_pos (by omega), wl (a := (i : Int) + 1) (by omega) (by omega), rd73 hn]
    have := ih k l (i + 1) (by omega) (by omega) (by omega) hl
    rw [List.take_succ_eq_append_getElem hn] at this
    unfold conv at this ⊢
    rw [List.map_append] at this
    exact this
theorem give_at (k : Nat) (l : List S73) (hk : l.length + 1 ≤ k) (hl : l.length ≤ 8796093022208) : fuseelaw13_give.f k l = some (conv l) := by
  have := give_loop l.length k l 0 (by omega) (by omega) hk hl
  unfold fuseelaw13_give.f
  simpa [conv] using this

theorem sure_at (k : Nat) (hk : 60 ≤ k) : fuseelaw13_sure.f k = some true :=
  at_rounds (g := fuseelaw13_sure.f) (fun k => fuseelaw13_sure.mono k) hk (by decide +kernel)
def has3 (x : Int) (s : S73) : Bool := decide (s.f0 ≤ x ∧ x ≤ s.f1)
theorem C_conv (l : List S73) (x : Int) : C (conv l) x = l.countP (has3 x) := by
  unfold C conv; rw [List.countP_map]; rfl
theorem drop3 {l : List S73} {i : Nat} (h : i < l.length) : l.drop i = l[i] :: l.drop (i + 1) := List.drop_eq_getElem_cons h
theorem of_loop : ∀ (d k : Nat) (x : Int) (l : List S73) (i c : Nat), l.length - i = d → i ≤ l.length → d + 1 ≤ k → l.length ≤ 1000 → c ≤ i →
    fuseeref13_Of.l0 k l x c i = some ((c + (l.drop i).countP (has3 x) : Nat) : Int) := by
  intro d
  induction d with
  | zero =>
    intro k x l i c hd hi hk hl hc
    obtain ⟨k, rfl⟩ : ∃ m, k = m + 1 := ⟨k - 1, by omega⟩
    obtain rfl : i = l.length := by omega
    rw [fuseeref13_Of.l0, if_neg (by omega)]; simp
  | succ d ih =>
    intro k x l i c hd hi hk hl hc
    obtain ⟨k, rfl⟩ : ∃ m, k = m + 1 := ⟨k - 1, by omega⟩
    have hn : i < l.length := by omega
    rw [fuseeref13_Of.l0, if_pos (by omega), if_pos (by omega), rd73 hn, wl (a := (i : Int) + 1) (by omega) (by omega), wl (a := (c : Int) + 1) (by omega) (by omega), drop3 hn, List.countP_cons]
    by_cases h1 : (l[i]).f0 ≤ x
    · by_cases h2 : x ≤ (l[i]).f1
      · rw [if_pos h1, if_pos h2, show has3 x l[i] = true from decide_eq_true ⟨h1, h2⟩, if_pos rfl]
        have := ih k x l (i + 1) (c + 1) (by omega) (by omega) (by omega) hl (by omega)
        rw [show c + (List.countP (has3 x) (l.drop (i + 1)) + 1) = c + 1 + List.countP (has3 x) (l.drop (i + 1)) by omega]
        exact this
      · rw [if_pos h1, if_neg h2, show has3 x l[i] = false from decide_eq_false (fun g => h2 g.2), if_neg (by simp), Nat.add_zero]
        exact ih k x l (i + 1) c (by omega) (by omega) (by omega) hl (by omega)
    · rw [if_neg h1, show has3 x l[i] = false from decide_eq_false (fun g => h1 g.1), if_neg (by simp), Nat.add_zero]
      exact ih k x l (i + 1) c (by omega) (by omega) (by omega) hl (by omega)
theorem of_at (k : Nat) (l : List S73) (x : Int) (hk : l.length + 1 ≤ k) (hl : l.length ≤ 1000) : fuseeref13_Of.f k l x = some (C (conv l) x : Int) := by
  have := of_loop l.length k x l 0 0 (by omega) (by omega) hk hl (by omega)
  unfold fuseeref13_Of.f
  rw [C_conv]
  simpa using this
theorem same_loop : ∀ (d k : Nat) (l : List S73) (x y : Int) (i : Nat), l.length - i = d → i ≤ l.length → d + 1 ≤ k → l.length ≤ 1000 →
    (∃ s ∈ l.drop i, has3 x s ≠ has3 y s) → fuseeref13_same.l0 k l x y i = some false := by
  intro d
  induction d with
  | zero =>
    intro k l x y i hd hi hk hl h
    obtain rfl : i = l.length := by omega
    simp at h
  | succ d ih =>
    intro k l x y i hd hi hk hl h
    obtain ⟨k, rfl⟩ : ∃ m, k = m + 1 := ⟨k - 1, by omega⟩
    have hn : i < l.length := by omega
    rw [drop3 hn] at h
    have next : has3 x l[i] = has3 y l[i] → fuseeref13_same.l0 k l x y ((i + 1 : Nat) : Int) = some false := by
      intro e
      refine ih k l x y (i + 1) (by omega) (by omega) (by omega) hl ?_
      obtain ⟨s, hs, g⟩ := h
      rcases List.mem_cons.1 hs with rfl | hs
      · exact absurd e g
      · exact ⟨s, hs, g⟩
    rw [fuseeref13_same.l0, if_pos (by omega), if_pos (by omega), rd73 hn, wl (a := (i : Int) + 1) (by omega) (by omega)]
    unfold has3 at next
    by_cases a : (l[i]).f0 ≤ x
    · rw [if_pos a]
      by_cases b : (l[i]).f0 ≤ y
      · rw [if_pos b]
        by_cases e : decide (x ≤ (l[i]).f1) = decide (y ≤ (l[i]).f1)
        · rw [if_neg (by rw [e]; simp)]
          exact next (by simpa [a, b] using e)
        · rw [if_pos (bne_iff_ne.2 e)]
      · rw [if_neg b]
        by_cases e : x ≤ (l[i]).f1
        · rw [if_pos e]
        · rw [if_neg e]; exact next (by simp [b, e])
    · rw [if_neg a]
      by_cases b : (l[i]).f0 ≤ y
      · rw [if_pos b]
        by_cases e : y ≤ (l[i]).f1
        · rw [if_pos e]
        · rw [if_neg e]; exact next (by simp [a, e])
      · rw [if_neg b]; exact next (by simp [a, b])
/-- the greatest number below all ends -/
def Low (l : List S73) (b U : Int) : Prop := (∀ s ∈ l, has3 b s = true → U ≤ s.f1) ∧ (∀ s ∈ l, b < s.f0 → U ≤ s.f0 - 1)
theorem take3 {l : List S73} {i : Nat} (h : i < l.length) {p : S73 → Prop} (h1 : ∀ s ∈ l.take i, p s) (h2 : p l[i]) : ∀ s ∈ l.take (i + 1), p s := by
  intro s hs
  rw [List.take_succ_eq_append_getElem h] at hs
  rcases List.mem_append.1 hs with g | g
  · exact h1 s g
  · simp at g; subst g; exact h2
/-- the last loop's state -/
def Inv4 (l : List S73) (b : Int) (i : Nat) (T : Int) : Prop :=
  (∀ s ∈ l, has3 b s = true → T ≤ s.f1) ∧ (∀ s ∈ l.take i, b < s.f0 → T ≤ s.f0 - 1) ∧ ∀ U, Low l b U → U ≤ T
theorem r4_loop (l : List S73) (b m : Int) (hv : ∀ s ∈ l, s.f0 ≤ s.f1) (hl : l.length ≤ 100) (hr : ∀ s ∈ l, R64 s.f0 ∧ R64 s.f1) (hb : R64 b) : ∀ (d k : Nat) (i : Nat) (T : Int), l.length - i = d → i ≤ l.length → d + 200 ≤ k → Inv4 l b i T →
    ∃ T', (Low l b T' ∧ ∀ U, Low l b U → U ≤ T') ∧ fuseeref13_Vote.l4 k l m b T i = some (b, T', m, 0) := by
  intro d
  induction d with
  | zero =>
    intro k i T hd hi hk hI
    obtain ⟨k, rfl⟩ : ∃ m, k = m + 1 := ⟨k - 1, by omega⟩
    obtain rfl : i = l.length := by omega
    obtain ⟨i1, i2, i3⟩ := hI
    rw [List.take_length] at i2
    refine ⟨T, ⟨⟨i1, i2⟩, i3⟩, ?_⟩
    rw [fuseeref13_Vote.l4, if_neg (by omega)]
  | succ d ih =>
    intro k i T hd hi hk hI
    obtain ⟨k, rfl⟩ : ∃ m, k = m + 1 := ⟨k - 1, by omega⟩
    have hn : i < l.length := by omega
    have hm := List.getElem_mem hn
    have hs := hr _ hm
    have hx := hv _ hm
    obtain ⟨i1, i2, i3⟩ := hI
    rw [fuseeref13_Vote.l4, if_pos (by omega), if_pos (by omega), rd73 hn, wl (a := (i : Int) + 1) (by omega) (by omega)]
    by_cases h1 : (l[i]).f0 > b
    · rw [if_pos h1]
      by_cases h2 : (l[i]).f0 ≤ T
      · rw [if_pos h2]
        have sm : fuseeref13_same.f k l b (l[i]).f0 = some false := by
          unfold fuseeref13_same.f
          refine same_loop l.length k l b _ 0 (by omega) (by omega) (by omega) (by omega) ⟨l[i], by simp, ?_⟩
          rw [show has3 b l[i] = false from decide_eq_false (by omega), show has3 (l[i]).f0 l[i] = true from decide_eq_true (by omega)]
          simp
        rw [sm]
        simp only [Option.bind_some, Bool.false_eq_true, if_false]
        unfold R64 at hs hb
        rw [R64.wrap (a := (l[i]).f0 - 1) (by unfold R64; omega)]
        exact ih k (i + 1) _ (by omega) (by omega) (by omega) ⟨fun s g e => by have := i1 s g e; omega, take3 hn (fun s g e => by have := i2 s g e; omega) (fun _ => by omega), fun U g => g.2 _ hm h1⟩
      · rw [if_neg h2]
        exact ih k (i + 1) _ (by omega) (by omega) (by omega) ⟨i1, take3 hn i2 (fun _ => by omega), i3⟩
    · rw [if_neg h1]
      exact ih k (i + 1) _ (by omega) (by omega) (by omega) ⟨i1, take3 hn i2 (fun e => absurd e h1), i3⟩
/-- the loop ahead of it -/
def Inv3 (l : List S73) (b : Int) (i : Nat) (T : Int) (fnd : Bool) : Prop :=
  (fnd = true → (∀ s ∈ l.take i, has3 b s = true → T ≤ s.f1) ∧ ∀ U, Low l b U → U ≤ T) ∧ (fnd = false → ∀ s ∈ l.take i, has3 b s = false)
theorem r3_loop (l : List S73) (b m : Int) (hv : ∀ s ∈ l, s.f0 ≤ s.f1) (hl : l.length ≤ 100) (hr : ∀ s ∈ l, R64 s.f0 ∧ R64 s.f1) (hb : R64 b) (hex : ∃ s ∈ l, has3 b s = true) : ∀ (d k : Nat) (i : Nat) (T : Int) (fnd : Bool), l.length - i = d → i ≤ l.length → d + 400 ≤ k → Inv3 l b i T fnd →
    ∃ T', (Low l b T' ∧ ∀ U, Low l b U → U ≤ T') ∧ fuseeref13_Vote.l3 k l m b T fnd i = some (b, T', m, 0) := by
  intro d
  induction d with
  | zero =>
    intro k i T fnd hd hi hk hI
    obtain ⟨k, rfl⟩ : ∃ m, k = m + 1 := ⟨k - 1, by omega⟩
    obtain rfl : i = l.length := by omega
    obtain ⟨i1, i2⟩ := hI
    rw [List.take_length] at i1 i2
    rw [fuseeref13_Vote.l3, if_neg (by omega)]
    have hf : fnd = true := by
      cases fnd with
      | true => rfl
      | false => obtain ⟨s, g1, g2⟩ := hex; rw [i2 rfl s g1] at g2; cases g2
    exact r4_loop l b m hv hl hr hb l.length k 0 T (by omega) (by omega) (by omega) ⟨(i1 hf).1, by simp, (i1 hf).2⟩
  | succ d ih =>
    intro k i T fnd hd hi hk hI
    obtain ⟨k, rfl⟩ : ∃ m, k = m + 1 := ⟨k - 1, by omega⟩
    have hn : i < l.length := by omega
    have hm := List.getElem_mem hn
    obtain ⟨i1, i2⟩ := hI
    rw [fuseeref13_Vote.l3, if_pos (by omega), if_pos (by omega), rd73 hn, wl (a := (i : Int) + 1) (by omega) (by omega)]
    by_cases h : (l[i]).f1 ≥ b ∧ (l[i]).f0 ≤ b
    · have hh : has3 b l[i] = true := decide_eq_true (by omega)
      rw [if_pos h.1, if_pos h.2]
      cases fnd with
      | true =>
        rw [if_pos rfl]
        by_cases g : (l[i]).f1 < T
        · rw [if_pos g]
          exact ih k (i + 1) _ true (by omega) (by omega) (by omega) ⟨fun _ => ⟨take3 hn (fun s q e => by have := (i1 rfl).1 s q e; omega) (fun _ => by omega), fun U q => q.1 _ hm hh⟩, fun e => by cases e⟩
        · rw [if_neg g]
          exact ih k (i + 1) _ true (by omega) (by omega) (by omega) ⟨fun _ => ⟨take3 hn (i1 rfl).1 (fun _ => by omega), (i1 rfl).2⟩, fun e => by cases e⟩
      | false =>
        rw [if_neg (by simp)]
        exact ih k (i + 1) _ true (by omega) (by omega) (by omega) ⟨fun _ => ⟨take3 hn (fun s q e => by rw [i2 rfl s q] at e; cases e) (fun _ => by omega), fun U q => q.1 _ hm hh⟩, fun e => by cases e⟩
    · have hh : has3 b l[i] = false := decide_eq_false (by omega)
      have key := ih k (i + 1) T fnd (by omega) (by omega) (by omega) ⟨fun e => ⟨take3 hn (i1 e).1 (fun q => by rw [hh] at q; cases q), (i1 e).2⟩, fun e => take3 hn (i2 e) hh⟩
      by_cases a : (l[i]).f1 ≥ b
      · rw [if_pos a, if_neg (fun c => h ⟨a, c⟩)]; exact key
      · rw [if_neg a]; exact key
/-- the loop that looks for the first start -/
def isStart3 (l : List S73) (b : Int) : Prop := ∃ s ∈ l, b = s.f0
def Inv2 (l : List S73) (m : Nat) (i : Nat) (b : Int) (fnd : Bool) : Prop :=
  (fnd = true → isStart3 l b ∧ C (conv l) b = m ∧ ∀ s ∈ l.take i, C (conv l) s.f0 = m → b ≤ s.f0) ∧ (fnd = false → ∀ s ∈ l.take i, C (conv l) s.f0 ≠ m)
theorem r2_loop (l : List S73) (m : Nat) (hv : ∀ s ∈ l, s.f0 ≤ s.f1) (hl : l.length ≤ 100) (hr : ∀ s ∈ l, R64 s.f0 ∧ R64 s.f1) (hex : ∃ s ∈ l, C (conv l) s.f0 = m) : ∀ (d k : Nat) (i : Nat) (b : Int) (fnd : Bool), l.length - i = d → i ≤ l.length → d + 600 ≤ k → Inv2 l m i b fnd →
    ∃ b' T', isStart3 l b' ∧ C (conv l) b' = m ∧ (∀ s ∈ l, C (conv l) s.f0 = m → b' ≤ s.f0) ∧ (Low l b' T' ∧ ∀ U, Low l b' U → U ≤ T') ∧ fuseeref13_Vote.l2 k l m b fnd i = some (b', T', (m : Int), 0) := by
  intro d
  induction d with
  | zero =>
    intro k i b fnd hd hi hk hI
    obtain ⟨k, rfl⟩ : ∃ m, k = m + 1 := ⟨k - 1, by omega⟩
    obtain rfl : i = l.length := by omega
    obtain ⟨i1, i2⟩ := hI
    rw [List.take_length] at i1 i2
    rw [fuseeref13_Vote.l2, if_neg (by omega)]
    have hf : fnd = true := by
      cases fnd with
      | true => rfl
      | false => obtain ⟨s, g1, g2⟩ := hex; exact absurd g2 (i2 rfl s g1)
    obtain ⟨j1, j2, j3⟩ := i1 hf
    have hs := j1
    obtain ⟨s, g1, g2⟩ := hs
    have hb : R64 b := by rw [g2]; exact (hr s g1).1
    obtain ⟨T', h1, h2⟩ := r3_loop l b m hv hl hr hb ⟨s, g1, decide_eq_true (by have := hv s g1; omega)⟩ l.length k 0 0 false (by omega) (by omega) (by omega) ⟨(fun e => by cases e), (fun _ => by simp)⟩
    exact ⟨b, T', j1, j2, j3, h1, h2⟩
  | succ d ih =>
    intro k i b fnd hd hi hk hI
    obtain ⟨k, rfl⟩ : ∃ m, k = m + 1 := ⟨k - 1, by omega⟩
    have hn : i < l.length := by omega
    have hm := List.getElem_mem hn
    obtain ⟨i1, i2⟩ := hI
    rw [fuseeref13_Vote.l2, if_pos (by omega), if_pos (by omega), rd73 hn, wl (a := (i : Int) + 1) (by omega) (by omega), of_at k l _ (by omega) (by omega)]
    simp only [Option.bind_some]
    by_cases h : C (conv l) (l[i]).f0 = m
    · rw [if_pos (by omega)]
      have new : ∀ (q : ∀ s ∈ l.take i, C (conv l) s.f0 = m → (l[i]).f0 ≤ s.f0), Inv2 l m (i + 1) (l[i]).f0 true := fun q =>
        ⟨fun _ => ⟨⟨_, hm, rfl⟩, h, take3 hn q (fun _ => Int.le_refl _)⟩, fun e => by cases e⟩
      cases fnd with
      | true =>
        rw [if_pos rfl]
        by_cases g : (l[i]).f0 < b
        · rw [if_pos g]
          exact ih k (i + 1) _ true (by omega) (by omega) (by omega) (new fun s q e => by have := (i1 rfl).2.2 s q e; omega)
        · rw [if_neg g]
          exact ih k (i + 1) _ true (by omega) (by omega) (by omega) ⟨fun _ => ⟨(i1 rfl).1, (i1 rfl).2.1, take3 hn (i1 rfl).2.2 (fun _ => by omega)⟩, fun e => by cases e⟩
      | false =>
        rw [if_neg (by simp)]
        exact ih k (i + 1) _ true (by omega) (by omega) (by omega) (new fun s q e => absurd e (i2 rfl s q))
    · rw [if_neg (by omega)]
      exact ih k (i + 1) _ fnd (by omega) (by omega) (by omega) ⟨fun e => ⟨(i1 e).1, (i1 e).2.1, take3 hn (i1 e).2.2 (fun q => absurd q h)⟩, fun e => take3 hn (i2 e) h⟩
/-- there is such a start -/
def attained (l : List S73) (m : Nat) : Prop := ∃ s ∈ l, C (conv l) s.f0 = m
/-- the loop that looks for the most -/
def Inv1r (l : List S73) (i m : Nat) : Prop := (∀ s ∈ l.take i, C (conv l) s.f0 ≤ m) ∧ (i = 0 → m = 0) ∧ (0 < i → attained l m)
/-- what the reference tells -/
def Tells (l : List S73) (b T : Int) (m : Nat) : Prop :=
  (∀ s ∈ l, C (conv l) s.f0 ≤ m) ∧ isStart3 l b ∧ C (conv l) b = m ∧ (∀ s ∈ l, C (conv l) s.f0 = m → b ≤ s.f0) ∧ (Low l b T ∧ ∀ U, Low l b U → U ≤ T)
theorem r1_loop (l : List S73) (hv : ∀ s ∈ l, s.f0 ≤ s.f1) (hl : l.length ≤ 100) (h0 : 0 < l.length) (hr : ∀ s ∈ l, R64 s.f0 ∧ R64 s.f1) : ∀ (d k : Nat) (i m : Nat), l.length - i = d → i ≤ l.length → d + 800 ≤ k → Inv1r l i m →
    ∃ b T m', Tells l b T m' ∧ fuseeref13_Vote.l1 k l m i = some (b, T, (m' : Int), 0) := by
  intro d
  induction d with
  | zero =>
    intro k i m hd hi hk hI
    obtain ⟨k, rfl⟩ : ∃ m, k = m + 1 := ⟨k - 1, by omega⟩
    obtain rfl : i = l.length := by omega
    obtain ⟨i1, i2, i3⟩ := hI
    rw [List.take_length] at i1
    rw [fuseeref13_Vote.l1, if_neg (by omega)]
    obtain ⟨b, T, a1, a2, a3, a4, a5⟩ := r2_loop l m hv hl hr (i3 h0) l.length k 0 0 false (by omega) (by omega) (by omega) ⟨(fun e => by cases e), (fun _ => by simp)⟩
    exact ⟨b, T, m, ⟨i1, a1, a2, a3, a4⟩, a5⟩
  | succ d ih =>
    intro k i m hd hi hk hI
    obtain ⟨k, rfl⟩ : ∃ m, k = m + 1 := ⟨k - 1, by omega⟩
    have hn : i < l.length := by omega
    have hm := List.getElem_mem hn
    obtain ⟨i1, i2, i3⟩ := hI
    rw [fuseeref13_Vote.l1, if_pos (by omega), if_pos (by omega), rd73 hn, wl (a := (i : Int) + 1) (by omega) (by omega), of_at k l _ (by omega) (by omega)]
    simp only [Option.bind_some]
    by_cases g : m ≤ C (conv l) (l[i]).f0
    · rw [show mx (m : Int) (C (conv l) (l[i]).f0 : Int) = (C (conv l) (l[i]).f0 : Int) by unfold mx; omega]
      exact ih k (i + 1) _ (by omega) (by omega) (by omega) ⟨take3 hn (fun s q => Nat.le_trans (i1 s q) g) (Nat.le_refl _), fun e => absurd e (by omega), fun _ => ⟨_, hm, rfl⟩⟩
    · rw [show mx (m : Int) (C (conv l) (l[i]).f0 : Int) = (m : Int) by unfold mx; omega]
      have hp : 0 < i := by
        rcases Nat.eq_zero_or_pos i with e | e
        · exact absurd (i2 e) (by omega)
        · exact e
      exact ih k (i + 1) m (by omega) (by omega) (by omega) ⟨take3 hn i1 (by omega), fun e => absurd e (by omega), fun _ => i3 hp⟩
theorem r0_bad : ∀ (d k : Nat) (l : List S73) (i : Nat), l.length - i = d → i ≤ l.length → d + 1 ≤ k → l.length ≤ 1000 → (∃ s ∈ l.drop i, s.f1 < s.f0) → fuseeref13_Vote.l0 k l i = some (0, 0, 0, 1) := by
  intro d
  induction d with
  | zero =>
    intro k l i hd hi hk hl h
    obtain rfl : i = l.length := by omega
    simp at h
  | succ d ih =>
    intro k l i hd hi hk hl h
    obtain ⟨k, rfl⟩ : ∃ m, k = m + 1 := ⟨k - 1, by omega⟩
    have hn : i < l.length := by omega
    rw [drop3 hn] at h
    rw [fuseeref13_Vote.l0, if_pos (by omega), if_pos (by omega), rd73 hn, wl (a := (i : Int) + 1) (by omega) (by omega)]
    by_cases g : (l[i]).f0 > (l[i]).f1
    · rw [if_pos g]
    · rw [if_neg g]
      refine ih k l (i + 1) (by omega) (by omega) (by omega) hl ?_
      obtain ⟨s, hs, q⟩ := h
      rcases List.mem_cons.1 hs with rfl | hs
      · exact absurd q g
      · exact ⟨s, hs, q⟩
theorem r0_good (l : List S73) (hv : ∀ s ∈ l, s.f0 ≤ s.f1) (hl : l.length ≤ 1000) : ∀ (d k : Nat) (i : Nat), l.length - i = d → i ≤ l.length →
    fuseeref13_Vote.l0 (k + d + 1) l i = if (l.length : Int) > 16 then some (0, 0, 0, 1) else if (l.length : Int) = 0 then some (0, 0, 0, 6) else fuseeref13_Vote.l1 k l 0 0 := by
  intro d
  induction d with
  | zero =>
    intro k i hd hi
    obtain rfl : i = l.length := by omega
    rw [fuseeref13_Vote.l0, if_neg (by omega)]
  | succ d ih =>
    intro k i hd hi
    have hn : i < l.length := by omega
    have := hv _ (List.getElem_mem hn)
    rw [show k + (d + 1) + 1 = (k + d + 1) + 1 by omega, fuseeref13_Vote.l0, if_pos (by omega), if_pos (by omega), rd73 hn, wl (a := (i : Int) + 1) (by omega) (by omega), if_neg (by omega)]
    exact ih k (i + 1) (by omega) (by omega)
theorem mem_conv {l : List S73} {s : S73} (h : s ∈ l) : (⟨s.f0, s.f1⟩ : S68) ∈ conv l := List.mem_map.2 ⟨s, h, rfl⟩
theorem alike {l : List S73} {b T b2 T2 : Int} {m m2 : Nat} (h : Told (conv l) b T m) (hs : isStart (conv l) b) (hg : ∀ U, (∀ s ∈ conv l, has b s = true → U ≤ s.f1) → (∀ s ∈ conv l, b < s.f0 → U ≤ s.f0 - 1) → U ≤ 9223372036854775807 → U ≤ T) (hr : ∀ s ∈ l, R64 s.f0 ∧ R64 s.f1) (hv : ∀ s ∈ l, s.f0 ≤ s.f1) (g : Tells l b2 T2 m2) : b = b2 ∧ T = T2 ∧ m = m2 := by
  obtain ⟨g1, ⟨s2, gs, ge⟩, g3, g4, g5, g6⟩ := g
  obtain ⟨s, hs1, hs2⟩ := hs
  obtain ⟨u, hu, rfl⟩ := List.mem_map.1 hs1
  have p3 := h.p3
  have a1 := g1 u hu
  have a2 := h.p1 _ (mem_conv gs)
  have em : m = m2 := by
    rw [show b = u.f0 from hs2] at p3
    rw [ge] at g3
    have : C (conv l) s2.f0 ≤ m := a2
    omega
  have eb : b = b2 := by
    have b1 := h.p2 _ (mem_conv gs) (show C (conv l) s2.f0 = m by rw [← ge, g3, em])
    have b2' := g4 u hu (by rw [← (show b = u.f0 from hs2), p3, em])
    have : b ≤ s2.f0 := b1
    have : b = u.f0 := hs2
    omega
  subst eb
  refine ⟨rfl, ?_, em⟩
  have c1 : T ≤ T2 := g6 T ⟨fun s q e => h.p5 _ (mem_conv q) e, fun s q e => h.p6 _ (mem_conv q) e⟩
  have c2 : T2 ≤ T := by
    refine hg T2 ?_ ?_ ?_
    · intro s q e
      obtain ⟨v, hv2, rfl⟩ := List.mem_map.1 q
      exact g5.1 v hv2 e
    · intro s q e
      obtain ⟨v, hv2, rfl⟩ := List.mem_map.1 q
      exact g5.2 v hv2 e
    · have := g5.1 s2 gs (decide_eq_true (by have := hv s2 gs; omega))
      have := (hr s2 gs).2
      unfold R64 at this; omega
  omega
theorem law (l : List S73) (hr : ∀ s ∈ l, R64 s.f0 ∧ R64 s.f1) : fuseelaw13_SpanVotes.f 3000 l = some true := by
  have hc : (conv l).length = l.length := by unfold conv; simp
  have hr2 : ∀ s ∈ conv l, R64 s.f0 ∧ R64 s.f1 := by
    intro s hs
    unfold conv at hs
    obtain ⟨u, hu, rfl⟩ := List.mem_map.1 hs
    exact hr u hu
  unfold fuseelaw13_SpanVotes.f
  by_cases h60 : (l.length : Int) > 60
  · rw [if_pos h60, sure_at _ (by omega)]; rfl
  rw [if_neg h60, give_at _ l (by omega) (by omega)]
  simp only [Option.bind_some]
  by_cases hb : badL (conv l)
  · have hb3 : ∃ s ∈ l.drop 0, s.f1 < s.f0 := by
      obtain ⟨s, hs, g⟩ := hb
      obtain ⟨u, hu, rfl⟩ := List.mem_map.1 hs
      exact ⟨u, hu, g⟩
    have e : fuseeref13_Vote.f 3000 l = some (0, 0, 0, 1) := r0_bad l.length 3000 l 0 (by omega) (by omega) (by omega) (by omega) hb3
    rw [vote_bad _ (by omega) _ (Or.inr hb), e]
    simp only [Option.bind_some, fuseelaw13_num.f, numE]
    rw [sure_at _ (by omega)]; rfl
  · have hv : ∀ s ∈ l, s.f0 ≤ s.f1 := by
      intro s hs
      have : ¬ s.f1 < s.f0 := fun g => hb ⟨_, mem_conv hs, g⟩
      omega
    have e : fuseeref13_Vote.f 3000 l = if (l.length : Int) > 16 then some (0, 0, 0, 1) else if (l.length : Int) = 0 then some (0, 0, 0, 6) else fuseeref13_Vote.l1 (2999 - l.length) l 0 0 := by
      have := r0_good l hv (by omega) l.length (2999 - l.length) 0 (by omega) (by omega)
      rw [show 2999 - l.length + l.length + 1 = 3000 by omega] at this
      exact this
    rw [e]
    by_cases h16 : (l.length : Int) > 16
    · rw [if_pos h16, vote_bad _ (by omega) _ (Or.inl (by omega))]
      simp only [Option.bind_some, fuseelaw13_num.f, numE]
      rw [sure_at _ (by omega)]; rfl
    · rw [if_neg h16]
      by_cases h0 : (l.length : Int) = 0
      · have hn : conv l = [] := List.length_eq_zero_iff.1 (by omega)
        rw [if_pos h0, hn, vote_none _ (by omega)]
        simp only [Option.bind_some, fuseelaw13_num.f, numE]
        rw [sure_at _ (by omega)]; rfl
      · rw [if_neg h0]
        obtain ⟨b2, T2, m2, g, e2⟩ := r1_loop l hv (by omega) (by omega) hr l.length (2999 - l.length) 0 0 (by omega) (by omega) (by omega) ⟨by simp, fun _ => rfl, fun e => absurd e (by omega)⟩
        obtain ⟨b, T, m, e1, h, hs, hg⟩ := vote_at 3000 (by omega) (conv l) (by omega) (fun q => by rw [q] at hc; simp at hc; omega) hb hr2
        obtain ⟨rfl, rfl, rfl⟩ := alike h hs hg hr hv g
        have e2' : fuseeref13_Vote.l1 (2999 - l.length) l 0 0 = some (b, T, (m : Int), 0) := e2
        rw [e1, e2']
        simp only [Option.bind_some, fuseelaw13_num.f, numE, BEq.rfl, Bool.and_self, if_true]
        rw [sure_at _ (by omega)]; rfl
theorem done (l : List S73) (hl : l.length ≤ maxLen) (hr : ∀ s ∈ l, (Lit.int .i64 s.f0).wf = true ∧ (Lit.int .i64 s.f1).wf = true) : ∃ k, fuseelaw13_SpanVotes.f k l = some true :=
  ⟨3000, law l (fun s hs => ⟨R64.of_wf (hr s hs).1, R64.of_wf (hr s hs).2⟩)⟩
end Go.Proofs.YtfipgpfmlkfkfaaDoor.MSpanVotes
