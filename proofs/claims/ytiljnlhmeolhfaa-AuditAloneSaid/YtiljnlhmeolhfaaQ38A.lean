/-
  AuditAlone in plain numbers.
-/
import Derived.Test.YtiljnlhmeolhfaaK
import Derived.Test.YtiljnlhmeolhfaaMath
import Derived.Test.YtiljnlhmeolhfaaMAuditAlonex
namespace Go.Proofs.Ytiljnlhmeolhfaa.MAuditAlone
open Go.RowKit Go.Proofs.YtiljnlhmeolhfaaW.PrintWords Go.Proofs.YtiljnlhmeolhfaaW.PrintMore
set_option linter.unusedVariables false
set_option linter.unusedSimpArgs false
theorem pSub (a b : Int) (ha : R64 a) (hb : R64 b) : num_Sub.f a b = some (if R64 (a - b) then (a - b, none) else (0, some 2)) := by
  unfold num_Sub.f
  by_cases h : R64 (a - b)
  · rw [if_pos h, h.wrap, if_neg]
    unfold R64 at *
    by_cases h0 : b < 0 <;> simp [h0] <;> omega
  · rw [if_neg h, if_pos]
    unfold R64 at *
    by_cases h0 : b < 0
    · have : ¬ wrap64 (a - b) > a := by unfold wrap64; omega
      simp [h0]; omega
    · have : wrap64 (a - b) > a := by unfold wrap64; omega
      simp [h0]; omega
theorem pSubSat (a b : Int) (ha : R64 a) (hb : R64 b) : num_SubSat.f a b = some (sat (a - b)) := by
  unfold num_SubSat.f num_edge.f
  rw [pSub a b ha hb]
  by_cases h : R64 (a - b)
  · rw [if_pos h, sat_of h]; rfl
  · rw [if_neg h]
    unfold R64 at *
    by_cases h0 : b > 0
    · simp [h0]; unfold sat; rw [if_pos (by omega)]
    · simp [h0]; unfold sat; rw [if_neg (by omega), if_pos (by omega)]
theorem pQCheck (q : Int) : quant_Check.f q = some (if okQ q then none else some 1) := by
  unfold quant_Check.f
  by_cases h : q < 1
  · rw [if_pos h, if_neg (by unfold okQ; omega)]
  · rw [if_neg h]
    by_cases h2 : q > 68719476736
    · rw [if_pos h2, if_neg (by unfold okQ; omega)]
    · rw [if_neg h2, if_pos (by unfold okQ; omega)]

abbrev E46 := S46
abbrev E68 := S68
def cv (x : E68) : E46 := ⟨x.f0, x.f1, x.f2, x.f3, ⟨x.f4.f0, x.f4.f1, x.f4.f2, x.f4.f3⟩, x.f5, x.f6⟩
def own (name : ByteArray) (x : E68) : Bool := x.f1.toList == name.toList
structure Ok (x : E68) : Prop where
  q : R64 x.f3
  v : R64 x.f4.f0
  b : R64 x.f4.f1
  t : R64 x.f6
theorem wn {i : Nat} (h : i ≤ 1000) : wrap64 ((i : Int) + 1) = ((i + 1 : Nat) : Int) := by unfold wrap64; omega
theorem rdn {l : List E68} {i : Nat} (h : i < l.length) : rd_T68 l (i : Int) = l[i] := by unfold rd_T68; simp [List.getD, h]
theorem rdm {l : List E46} {i : Nat} (h : i < l.length) : rd_T46 l (i : Int) = l[i] := by unfold rd_T46; simp [List.getD, h]
theorem give_l (l : List E68) (hl : l.length ≤ 60) : ∀ (n i k : Nat) (acc : List E46), l.length - i = n → i ≤ l.length → n < k → acc.length ≤ i → fuseelaw38_give.l0 k l acc (i : Int) = some (acc ++ (l.drop i).map cv)
  | _, _, 0, _, _, _, hk, _ => absurd hk (by omega)
  | n, i, k + 1, acc, hn, hi, hk, ha => by
    unfold fuseelaw38_give.l0
    by_cases h : i < l.length
    · rw [if_pos (by omega), if_pos (by omega), if_pos (by omega), rdn h, wn (by omega), give_l l hl (n - 1) (i + 1) k _ (by omega) (by omega) (by omega) (by simp; omega), List.drop_eq_getElem_cons h, List.append_assoc]
      rfl
    · rw [if_neg (by omega), List.drop_of_length_le (by omega), List.map_nil, List.append_nil]
theorem give_eq (l : List E68) (hl : l.length ≤ 60) (k : Nat) (hk : 100 ≤ k) : fuseelaw38_give.f k l = some (l.map cv) := by
  unfold fuseelaw38_give.f
  have := give_l l hl l.length 0 k [] rfl (Nat.zero_le _) (by omega) (Nat.le_refl _)
  rw [List.drop_zero, List.nil_append] at this
  exact this
theorem nm_cv (name : ByteArray) (x : E68) : nm name (cv x) = own name x := rfl
theorem seenV_cv (name : ByteArray) (l : List E68) : seenV name (l.map cv) = (l.filter (own name)).map cv := by
  unfold seenV
  rw [List.filter_map]
  rfl
theorem seen_eq (name : ByteArray) (l : List E46) (h : l.length ≤ 1000) : audit_Seen.f l name = some (seenV name l) := by unfold audit_Seen.f; rw [if_pos (by omega)]
/-! Back -/
def el (name : ByteArray) (x : E68) : Bool := own name x && !x.f2
def bad (name : ByteArray) (p : List E68) (x : E68) : Bool := el name x && p.any fun y => el name y && decide (x.f4.f0 < y.f4.f0)
def rb (name : ByteArray) : List E68 → List E68 → Int → Int
  | _, [], _ => -1
  | p, x :: l, i => if bad name p x = true then i else rb name (p ++ [x]) l (i + 1)
theorem back_rb (name : ByteArray) : ∀ (l p : List E68) (m : Int) (a : Bool) (i : Int), (∀ v : Int, (p.any fun y => el name y && decide (v < y.f4.f0)) = (a && decide (v < m))) → idxB name m a (l.map cv) i = rb name p l i
  | [], _, _, _, _, _ => rfl
  | x :: l, p, m, a, i, h => by
    rw [List.map_cons]
    unfold idxB rb
    have hb : (bkS name m a (cv x)).2.2 = bad name p x := by
      unfold bkS bad
      rw [h]
      show (if (!own name x || x.f2) = true then (m, a, false) else ((if a = true then (if m < x.f4.f0 then x.f4.f0 else m) else x.f4.f0), true, a && decide (x.f4.f0 < m))).2.2 = (el name x && (a && decide (x.f4.f0 < m)))
      unfold el
      cases own name x <;> cases x.f2 <;> simp
    rw [hb]
    by_cases hB : bad name p x = true
    · rw [if_pos hB, if_pos hB]
    · rw [if_neg hB, if_neg hB]
      refine back_rb name l (p ++ [x]) _ _ _ (fun v => ?_)
      rw [List.any_append, h]
      show ((a && decide (v < m)) || [x].any fun y => el name y && decide (v < y.f4.f0)) = _
      simp only [List.any_cons, List.any_nil, Bool.or_false]
      unfold bkS
      show _ = ((if (!own name x || x.f2) = true then (m, a, false) else ((if a = true then (if m < x.f4.f0 then x.f4.f0 else m) else x.f4.f0), true, a && decide (x.f4.f0 < m))).2.1 && decide (v < (if (!own name x || x.f2) = true then (m, a, false) else ((if a = true then (if m < x.f4.f0 then x.f4.f0 else m) else x.f4.f0), true, a && decide (x.f4.f0 < m))).1))
      unfold el
      cases own name x <;> cases x.f2 <;> cases a <;> simp
      split <;> rw [Bool.eq_iff_iff] <;> simp <;> omega
theorem back_eq (name : ByteArray) (l : List E68) (hl : l.length ≤ 60) : audit_Back.f (l.map cv) name = some (rb name [] l 0) := by
  unfold audit_Back.f
  rw [if_pos (by rw [List.length_map]; omega), back_rb name l [] 0 false 0 (fun v => by simp)]
def eq5 (x y : E68) : Bool := x.f2 == y.f2 && (x.f3 == y.f3 && (x.f4.f0 == y.f4.f0 && (x.f4.f1 == y.f4.f1 && (x.f4.f2 == y.f4.f2 && x.f4.f3 == y.f4.f3))))
theorem same_fact (name : ByteArray) (x y : E68) (hx : own name x = true) (hy : own name y = true) : audit_Same_1.f (cv x).f0 (cv x).f1 (cv x).f2 (cv x).f3 (cv x).f4.f0 (cv x).f4.f1 (cv x).f4.f2 (cv x).f4.f3 (cv x).f5 (cv x).f6 (cv y).f0 (cv y).f1 (cv y).f2 (cv y).f3 (cv y).f4.f0 (cv y).f4.f1 (cv y).f4.f2 (cv y).f4.f3 (cv y).f5 (cv y).f6 = some (eq5 x y) := by
  have e : (x.f1.toList == y.f1.toList) = true := by
    have h1 : x.f1.toList = name.toList := beq_iff_eq.1 hx
    have h2 : y.f1.toList = name.toList := beq_iff_eq.1 hy
    rw [h1, h2]; simp
  unfold audit_Same_1.f audit_Event_told.f cv eq5
  simp only [Option.bind_some, e, BEq.rfl, Bool.true_and, Bool.and_true, Bool.and_assoc]
def sameV (s t : List E68) : Bool := decide (s.length = t.length) && (s.zip t).all fun p => eq5 p.1 p.2
theorem psame_l (name : ByteArray) (s t : List E68) (hs : ∀ x ∈ s, own name x = true) (ht : ∀ x ∈ t, own name x = true) (hl : s.length ≤ 60) (he : s.length = t.length) : ∀ (n i k : Nat), s.length - i = n → i ≤ s.length → n < k → audit_Event_48_at49.l0 k (t.map cv) (s.map cv) (s.length : Int) (i : Int) = some (((s.drop i).zip (t.drop i)).all fun p => eq5 p.1 p.2)
  | _, _, 0, _, _, hk => absurd hk (by omega)
  | n, i, k + 1, hn, hi, hk => by
    unfold audit_Event_48_at49.l0
    by_cases h : i < s.length
    · have h2 : i < t.length := by omega
      have e1 : rd_T46 (s.map cv) (i : Int) = cv s[i] := by rw [rdm (by rw [List.length_map]; exact h), List.getElem_map]
      have e2 : rd_T46 (t.map cv) (i : Int) = cv t[i] := by rw [rdm (by rw [List.length_map]; exact h2), List.getElem_map]
      rw [if_pos (by omega), if_pos (by omega), if_pos (by rw [List.length_map]; omega), if_pos (by rw [List.length_map]; omega), e1, e2, same_fact name _ _ (hs _ (List.getElem_mem h)) (ht _ (List.getElem_mem h2)), Option.bind_some, wn (by omega), psame_l name s t hs ht hl he (n - 1) (i + 1) k (by omega) (by omega) (by omega), List.drop_eq_getElem_cons h, List.drop_eq_getElem_cons h2, List.zip_cons_cons, List.all_cons]
      cases eq5 s[i] t[i] <;> simp
    · rw [if_neg (by omega), List.drop_of_length_le (show s.length ≤ i by omega)]
      simp
theorem psame_eq (name : ByteArray) (l m : List E68) (hl : l.length ≤ 60) (hm : m.length ≤ 60) (k : Nat) (hk : 100 ≤ k) : audit_Same.f k (l.map cv) (m.map cv) name = some (sameV (l.filter (own name)) (m.filter (own name))) := by
  have l1 := List.length_filter_le (own name) l
  unfold audit_Same.f
  rw [seen_eq _ _ (by rw [List.length_map]; omega), seen_eq _ _ (by rw [List.length_map]; omega), seenV_cv, seenV_cv, Option.bind_some, Option.bind_some]
  unfold audit_Event_48_at49.f sameV
  rw [List.length_map, List.length_map]
  by_cases h : (l.filter (own name)).length = (m.filter (own name)).length
  · have := psame_l name (l.filter (own name)) (m.filter (own name)) (fun x hx => (List.mem_filter.1 hx).2) (fun x hx => (List.mem_filter.1 hx).2) (by omega) h _ 0 k rfl (Nat.zero_le _) (by omega)
    rw [List.drop_zero, List.drop_zero, show ((0 : Nat) : Int) = 0 from rfl] at this
    rw [if_pos (by omega), this, decide_eq_true h]
    simp
  · rw [if_neg (by omega), decide_eq_false h]
    simp
def worstV (s : List E68) : Int := match s with
  | [] => 0
  | x :: t => t.foldl (fun m y => mx m y.f4.f1) x.f4.f1
theorem pworst_l (s : List E68) (hl : s.length ≤ 60) : ∀ (n i k : Nat) (m : Int), s.length - i = n → i ≤ s.length → n < k → audit_Worst.l0 k m true (s.map cv) (s.length : Int) (i : Int) = some ((s.drop i).foldl (fun m y => mx m y.f4.f1) m)
  | _, _, 0, _, _, _, hk => absurd hk (by omega)
  | n, i, k + 1, m, hn, hi, hk => by
    unfold audit_Worst.l0
    by_cases h : i < s.length
    · have e1 : rd_T46 (s.map cv) (i : Int) = cv s[i] := by rw [rdm (by rw [List.length_map]; exact h), List.getElem_map]
      have ih := fun m => pworst_l s hl (n - 1) (i + 1) k m (by omega) (by omega) (by omega)
      rw [if_pos (by omega), if_pos (by omega), if_pos (by rw [List.length_map]; omega), if_pos rfl, e1, wn (by omega), List.drop_eq_getElem_cons h, List.foldl_cons]
      show (if s[i].f4.f1 > m then audit_Worst.l0 k s[i].f4.f1 true (s.map cv) (s.length : Int) ((i + 1 : Nat) : Int) else audit_Worst.l0 k m true (s.map cv) (s.length : Int) ((i + 1 : Nat) : Int)) = _
      by_cases g : m < s[i].f4.f1
      · rw [if_pos g, ih, show mx m s[i].f4.f1 = s[i].f4.f1 from if_pos g]
      · rw [if_neg g, ih, show mx m s[i].f4.f1 = m from if_neg g]
    · rw [if_neg (by omega), List.drop_of_length_le (by omega)]
      rfl
theorem pworst_eq (name : ByteArray) (l : List E68) (hl : l.length ≤ 60) (k : Nat) (hk : 100 ≤ k) : audit_Worst.f k (l.map cv) name = some (worstV (l.filter (own name))) := by
  have l1 := List.length_filter_le (own name) l
  unfold audit_Worst.f
  rw [seen_eq _ _ (by rw [List.length_map]; omega), seenV_cv, Option.bind_some, List.length_map]
  obtain ⟨k, rfl⟩ : ∃ k', k = k' + 1 := ⟨k - 1, by omega⟩
  generalize hs : l.filter (own name) = s at l1 ⊢
  unfold audit_Worst.l0
  cases s with
  | nil => rfl
  | cons x t =>
    have := pworst_l (x :: t) (by omega) t.length 1 k x.f4.f1 (by simp) (by simp) (by simp at l1; omega)
    rw [if_pos (by simp), if_pos (by omega), if_pos (by simp), if_neg (by simp), show wrap64 (0 + 1) = ((1 : Nat) : Int) from wn (i := 0) (by omega)]
    exact this

def scan {σ ε : Type} (f : σ → ε → σ) (g : σ → ε → Bool) : σ → List ε → Int → Int
  | _, [], _ => -1
  | s, x :: l, i => if g s x = true then i else scan f g (f s x) l (i + 1)
theorem scan_own {σ ε : Type} (f : σ → ε → σ) (g : σ → ε → Bool) (p : ε → Bool) (hp : ∀ s x, p x = false → f s x = s ∧ g s x = false) : ∀ (l : List ε) (s : σ) (i j : Int),
    (scan f g s l i = -1 ∧ scan f g s (l.filter p) j = -1) ∨ ∃ a b : Nat, a < l.length ∧ scan f g s l i = i + a ∧ b < (l.filter p).length ∧ scan f g s (l.filter p) j = j + b ∧ l[a]? = (l.filter p)[b]? ∧ scan f g s (l.take a) i = -1 ∧ scan f g s (l.take (a + 1)) i = i + a
  | [], s, i, j => .inl ⟨rfl, rfl⟩
  | x :: l, s, i, j => by
    cases hx : p x with
    | false =>
      obtain ⟨e1, e2⟩ := hp s x hx
      rw [List.filter_cons_of_neg (by rw [hx]; simp)]
      rcases scan_own f g p hp l s (i + 1) j with ⟨h1, h2⟩ | ⟨a, b, ha, h1, hb, h2, h3, h4, h5⟩
      · refine .inl ⟨?_, h2⟩
        unfold scan
        rw [e1, e2, if_neg (by simp)]
        exact h1
      · refine .inr ⟨a + 1, b, by simp; omega, ?_, hb, h2, by rw [List.getElem?_cons_succ]; exact h3, ?_, ?_⟩
        · unfold scan
          rw [e1, e2, if_neg (by simp), h1]; omega
        · rw [List.take_succ_cons]
          unfold scan
          rw [e1, e2, if_neg (by simp)]
          exact h4
        · rw [List.take_succ_cons]
          unfold scan
          rw [e1, e2, if_neg (by simp), h5]; omega
    | true =>
      rw [List.filter_cons_of_pos hx]
      cases hg : g s x with
      | true =>
        refine .inr ⟨0, 0, by simp, ?_, by simp, ?_, by simp, rfl, ?_⟩
        · unfold scan; rw [if_pos hg]; simp
        · unfold scan; rw [if_pos hg]; simp
        · rw [List.take_succ_cons]; unfold scan; rw [if_pos hg]; simp
      | false =>
        rcases scan_own f g p hp l (f s x) (i + 1) (j + 1) with ⟨h1, h2⟩ | ⟨a, b, ha, h1, hb, h2, h3, h4, h5⟩
        · refine .inl ⟨?_, ?_⟩
          · unfold scan; rw [if_neg (by rw [hg]; simp)]; exact h1
          · unfold scan; rw [if_neg (by rw [hg]; simp)]; exact h2
        · refine .inr ⟨a + 1, b + 1, by simp; omega, ?_, by simp; omega, ?_, by rw [List.getElem?_cons_succ, List.getElem?_cons_succ]; exact h3, ?_, ?_⟩
          · unfold scan; rw [if_neg (by rw [hg]; simp), h1]; omega
          · unfold scan; rw [if_neg (by rw [hg]; simp), h2]; omega
          · rw [List.take_succ_cons]; unfold scan; rw [if_neg (by rw [hg]; simp)]; exact h4
          · rw [List.take_succ_cons]; unfold scan; rw [if_neg (by rw [hg]; simp), h5]; omega
theorem idx_scan (p : E46 → Option Bool) (q : E46 → Bool) : ∀ (l : List E46) (i : Int), (∀ x ∈ l, p x = some (q x)) → idx p l i = some (scan (fun (_ : Unit) _ => ()) (fun _ x => q x) () l i)
  | [], _, _ => rfl
  | x :: l, i, h => by
    unfold idx scan
    rw [h x (List.mem_cons_self ..), Option.bind_some, idx_scan p q l (i + 1) (fun y hy => h y (List.mem_cons_of_mem _ hy))]
    split <;> rfl
theorem idxB_scan (name : ByteArray) : ∀ (l : List E46) (m : Int) (a : Bool) (i : Int), idxB name m a l i = scan (fun (s : Int × Bool) x => ((bkS name s.1 s.2 x).1, (bkS name s.1 s.2 x).2.1)) (fun s x => (bkS name s.1 s.2 x).2.2) (m, a) l i
  | [], _, _, _ => rfl
  | x :: l, m, a, i => by
    unfold idxB scan
    rw [idxB_scan name l]
def cB (name : ByteArray) (x : E46) : Bool := (coarseP name x).getD false
theorem cB_eq (name : ByteArray) (x : E46) : coarseP name x = some (cB name x) := by
  have h : ∃ b, quant_Is.f x.f4.f0 x.f3 = some b := by
    unfold quant_Is.f
    rw [pQCheck]
    by_cases h : okQ x.f3
    · rw [if_pos h]
      exact ⟨_, by simp only [Option.bind_some, Option.isNone_none, if_true]; rw [if_neg (by unfold okQ at h; omega)]⟩
    · rw [if_neg h]; exact ⟨false, rfl⟩
  obtain ⟨b, hb⟩ := h
  unfold cB coarseP
  rw [hb]
  split <;> rfl
def fB (name : ByteArray) (x : E46) : Bool := (farP name x).getD false
structure Ok46 (x : E46) : Prop where
  v : R64 x.f4.f0
  t : R64 x.f6
theorem fB_eq (name : ByteArray) (x : E46) (h : Ok46 x) : farP name x = some (fB name x) := by
  have h : ∃ b, audit_Event_far.f x.f0 x.f1 x.f2 x.f3 x.f4.f0 x.f4.f1 x.f4.f2 x.f4.f3 x.f5 x.f6 = some b := by
    unfold audit_Event_far.f
    rw [pSubSat _ _ h.v h.t, pSubSat _ _ h.t h.v]
    simp only [Option.bind_some]
    split <;> exact ⟨_, rfl⟩
  obtain ⟨b, hb⟩ := h
  unfold fB farP
  rw [hb]
  split <;> rfl
/-- what is found, by one's own events -/
theorem found_fact (name : ByteArray) (l : List E46) (hl : l.length ≤ 1000) (hok : ∀ x ∈ l, Ok46 x) (n : Int) (h0 : 0 ≤ n) (h3 : n < 3) :
    ∃ F : List E46 → Int, (∀ t : List E46, (∀ x ∈ t, x ∈ l) → t.length ≤ 1000 → fuseelaw38_found.f t name n = some (F t)) ∧
      ((F l = -1 ∧ F (seenV name l) = -1) ∨ ∃ a b : Nat, a < l.length ∧ F l = a ∧ b < (seenV name l).length ∧ F (seenV name l) = b ∧ l[a]? = (seenV name l)[b]? ∧ F (l.take a) = -1 ∧ F (l.take (a + 1)) = a) := by
  have fin : ∀ (σ : Type) (f : σ → E46 → σ) (g : σ → E46 → Bool) (s : σ), (∀ s x, nm name x = false → f s x = s ∧ g s x = false) → ((scan f g s l 0 = -1 ∧ scan f g s (seenV name l) 0 = -1) ∨ ∃ a b : Nat, a < l.length ∧ scan f g s l 0 = a ∧ b < (seenV name l).length ∧ scan f g s (seenV name l) 0 = b ∧ l[a]? = (seenV name l)[b]? ∧ scan f g s (l.take a) 0 = -1 ∧ scan f g s (l.take (a + 1)) 0 = a) := by
    intro σ f g s hp
    have := scan_own f g (nm name) hp l s 0 0
    unfold seenV
    simpa only [Int.zero_add] using this
  have hn : n = 0 ∨ n = 1 ∨ n = 2 := by omega
  rcases hn with rfl | rfl | rfl
  · refine ⟨fun t => scan (fun (s : Int × Bool) x => ((bkS name s.1 s.2 x).1, (bkS name s.1 s.2 x).2.1)) (fun s x => (bkS name s.1 s.2 x).2.2) (0, false) t 0, fun t ht hl => ?_, fin _ _ _ _ (fun s x hx => ?_)⟩
    · unfold fuseelaw38_found.f audit_Back.f
      rw [if_pos rfl, if_pos (by omega), idxB_scan]
      rfl
    · have e : bkS name s.1 s.2 x = (s.1, s.2, false) := by
        unfold bkS
        have hx' : (x.f1.toList == name.toList) = false := hx
        rw [hx', if_pos (by simp)]
      rw [e]
      exact ⟨rfl, rfl⟩
  · refine ⟨fun t => scan (fun (_ : Unit) _ => ()) (fun _ x => cB name x) () t 0, fun t ht hl => ?_, fin _ _ _ _ (fun s x hx => ⟨rfl, ?_⟩)⟩
    · unfold fuseelaw38_found.f audit_Coarse.f
      rw [if_neg (by decide), if_pos rfl, if_pos (by omega), idx_scan _ (cB name) t 0 (fun x _ => cB_eq name x)]
      rfl
    · unfold cB coarseP
      have hx' : (x.f1.toList == name.toList) = false := hx
      rw [hx']; rfl
  · refine ⟨fun t => scan (fun (_ : Unit) _ => ()) (fun _ x => fB name x) () t 0, fun t ht hl => ?_, fin _ _ _ _ (fun s x hx => ⟨rfl, ?_⟩)⟩
    · unfold fuseelaw38_found.f audit_Far.f
      rw [if_neg (by decide), if_neg (by decide), if_pos (by omega), idx_scan _ (fB name) t 0 (fun x hx => fB_eq name x (hok x (ht x hx)))]
      rfl
    · unfold fB farP
      have hx' : (x.f1.toList == name.toList) = false := hx
      rw [hx']; rfl
theorem sure_at (k : Nat) (hk : 40 ≤ k) : fuseelaw38_sure.f k = some true :=
  at_rounds (g := fuseelaw38_sure.f) (fun k => fuseelaw38_sure.mono k) hk (by decide +kernel)
theorem alone_l (name : ByteArray) (x : List E46) (hl : x.length ≤ 60) (hok : ∀ y ∈ x, Ok46 y) : ∀ (c : Nat) (n : Int) (k : Nat), n = 3 - (c : Int) → c ≤ 3 → 50 + 2 * c < k → fuseelaw38_AuditAlone.l0 k name x (seenV name x) n = some true
  | 0, n, k, hn, hc, hk => by
    obtain ⟨k, rfl⟩ : ∃ k', k = k' + 1 := ⟨k - 1, by omega⟩
    unfold fuseelaw38_AuditAlone.l0
    rw [if_neg (by omega), sure_at k (by omega)]
    rfl
  | c + 1, n, k, hn, hc, hk => by
    obtain ⟨k, rfl⟩ : ∃ k', k = k' + 2 := ⟨k - 2, by omega⟩
    have lo : (seenV name x).length ≤ x.length := List.length_filter_le _ _
    have ih := alone_l name x hl hok c (n + 1) k (by omega) (by omega) (by omega)
    have hw : wrap64 (n + 1) = n + 1 := by unfold wrap64; omega
    obtain ⟨F, hF, hcase⟩ := found_fact name x (by omega) hok n (by omega) (by omega)
    have f1 := hF x (fun _ h => h) (by omega)
    have f2 := hF (seenV name x) (fun y hy => (List.mem_filter.1 hy).1) (by omega)
    unfold fuseelaw38_AuditAlone.l0
    rw [if_pos (by omega), f1, f2, Option.bind_some, Option.bind_some]
    rcases hcase with ⟨h1, h2⟩ | ⟨a, b, ha, h1, hb, h2, h3, h4, h5⟩
    · rw [h1, h2, if_neg (by simp), if_neg (by omega), if_neg (by omega), if_neg (by omega), if_neg (by omega), if_neg (by omega)]
      unfold fuseelaw38_AuditAlone.j2
      rw [if_neg (by simp), if_neg (by omega), hw]
      exact ih
    · rw [List.getElem?_eq_getElem ha, List.getElem?_eq_getElem hb] at h3
      have h3' := Option.some.inj h3
      have g1 := hF (x.take a) (fun y hy => List.mem_of_mem_take hy) (by rw [List.length_take]; omega)
      have g2 := hF (x.take (a + 1)) (fun y hy => List.mem_of_mem_take hy) (by rw [List.length_take]; omega)
      rw [h1, h2, if_neg (by rw [decide_eq_false (show ¬ (a : Int) < 0 by omega), decide_eq_false (show ¬ (b : Int) < 0 by omega)]; simp), if_neg (by omega), if_neg (by omega), if_neg (by omega), if_neg (by omega), if_pos (by omega), if_pos (by omega), if_pos (by omega), if_pos (by omega), if_pos (by omega), rdm ha, rdm hb, h3']
      unfold fuseelaw38_AuditAlone.j2
      rw [if_neg (by simp), if_pos (by omega), if_pos (by omega), if_pos (by omega), Int.toNat_natCast, g1, Option.bind_some, h4, if_pos rfl, wn (by omega), if_pos (by omega), if_pos (by omega), Int.toNat_natCast, g2, Option.bind_some, h5, if_pos rfl, hw]
      exact ih
theorem eq5_refl (x : E68) : eq5 x x = true := by unfold eq5; simp
theorem same_self (s : List E68) : sameV s s = true := by
  unfold sameV
  rw [decide_eq_true rfl, Bool.true_and, List.all_eq_true]
  intro p hp
  have : ∀ (s : List E68), ∀ p ∈ s.zip s, eq5 p.1 p.2 = true := by
    intro s
    induction s with
    | nil => intro p hp; cases hp
    | cons x t ih =>
      intro p hp
      rw [List.zip_cons_cons] at hp
      rcases List.mem_cons.1 hp with rfl | hp
      · exact eq5_refl x
      · exact ih p hp
  exact this s p hp
theorem main_eq (l : List E68) (name : ByteArray) (hok : ∀ x ∈ l, Ok x) (k : Nat) (hk : 300 ≤ k) : fuseelaw38_AuditAlone.f k l name = some true := by
  unfold fuseelaw38_AuditAlone.f
  by_cases h1 : (l.length : Int) > 60
  · rw [if_pos h1, sure_at k (by omega)]; rfl
  · have hl : l.length ≤ 60 := by omega
    have l1 := List.length_filter_le (own name) l
    have ff : (l.filter (own name)).filter (own name) = l.filter (own name) := List.filter_eq_self.2 (fun x hx => (List.mem_filter.1 hx).2)
    rw [if_neg h1, give_eq l hl k (by omega), Option.bind_some, seen_eq _ _ (by rw [List.length_map]; omega), Option.bind_some, seenV_cv, psame_eq name l _ hl (by omega) k (by omega), Option.bind_some, ff, same_self, if_pos rfl, pworst_eq name l hl k (by omega), Option.bind_some, pworst_eq name _ (by omega) k (by omega), Option.bind_some, ff, ← seenV_cv]
    obtain ⟨k, rfl⟩ : ∃ k', k = k' + 1 := ⟨k - 1, by omega⟩
    unfold fuseelaw38_AuditAlone.j0
    simp only [bne_self_eq_false, Bool.false_eq_true, if_false]
    exact alone_l name (l.map cv) (by rw [List.length_map]; omega) (fun y hy => by
      obtain ⟨x, hx, rfl⟩ := List.mem_map.1 hy
      exact ⟨(hok x hx).v, (hok x hx).t⟩) 3 0 k (by omega) (by omega) (by omega)
theorem done (l : List S68) (name : ByteArray) (hl : l.length ≤ maxLen) (hr : ∀ x ∈ l, (Lit.int .i64 x.f0).wf = true ∧ x.f1.size ≤ maxLen ∧ (Lit.int .i64 x.f3).wf = true ∧ (Lit.int .i64 x.f4.f0).wf = true ∧ (Lit.int .i64 x.f4.f1).wf = true ∧ (Lit.int .i64 x.f4.f2).wf = true ∧ (Lit.int .i64 x.f4.f3).wf = true ∧ (Lit.int .i64 x.f6).wf = true) (hs : name.size ≤ 140737488351232) : ∃ k, fuseelaw38_AuditAlone.f k l name = some true :=
  ⟨300, main_eq l name (fun x hx => have h := hr x hx; ⟨R64.of_wf h.2.2.1, R64.of_wf h.2.2.2.1, R64.of_wf h.2.2.2.2.1, R64.of_wf h.2.2.2.2.2.2.2⟩) 300 (by omega)⟩
end Go.Proofs.Ytiljnlhmeolhfaa.MAuditAlone
