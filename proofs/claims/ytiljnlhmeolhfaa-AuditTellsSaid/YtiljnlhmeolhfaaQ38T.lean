/-
  AuditTells in plain numbers.
-/
import Derived.Test.YtiljnlhmeolhfaaK
import Derived.Test.YtiljnlhmeolhfaaMath
import Derived.Test.YtiljnlhmeolhfaaMAuditTellsx
namespace Go.Proofs.Ytiljnlhmeolhfaa.MAuditTells
open Go.RowKit Go.Proofs.YtiljnlhmeolhfaaW.PrintWords Go.Proofs.YtiljnlhmeolhfaaW.PrintMore
set_option linter.unusedVariables false
set_option linter.unusedSimpArgs false
theorem pSub (a b : Int) (ha : R64 a) (hb : R64 b) : num_Sub.f a b = some (if R64 (a - b) then (a - b, none) else (0, some 2)) := by
  unfold num_Sub.f
  by_cases h : R64 (a - b)
  · rw [if_pos h, h.wrap, if_neg]
    unfold R64 at *
    by_cases h0 : b < 0 <;> simp [h0] <;> omega
  · rw [if_neg h, if_pos]
    unfold R64 at *
    by_cases h0 : b < 0
    · have : ¬ wrap64 (a - b) > a := by unfold wrap64; omega
      simp [h0]; omega
    · have : wrap64 (a - b) > a := by unfold wrap64; omega
      simp [h0]; omega
theorem pSubSat (a b : Int) (ha : R64 a) (hb : R64 b) : num_SubSat.f a b = some (sat (a - b)) := by
  unfold num_SubSat.f num_edge.f
  rw [pSub a b ha hb]
  by_cases h : R64 (a - b)
  · rw [if_pos h, sat_of h]; rfl
  · rw [if_neg h]
    unfold R64 at *
    by_cases h0 : b > 0
    · simp [h0]; unfold sat; rw [if_pos (by omega)]
    · simp [h0]; unfold sat; rw [if_neg (by omega), if_pos (by omega)]
theorem prLess (k : Nat) (a b : Int) (ha : R64 a) (hb : R64 b) : fuseeref01_Less.f (k + 1) a b = some (rng (a - b)) := by
  unfold fuseeref01_Less.f rng
  have w1 : b < 0 → wrap64 (9223372036854775807 + b) = 9223372036854775807 + b := fun h => R64.wrap (by unfold R64 at *; omega)
  have w2 : 0 < b → wrap64 (-9223372036854775808 + b) = -9223372036854775808 + b := fun h => R64.wrap (by unfold R64 at *; omega)
  by_cases hr : R64 (a - b)
  · rw [if_pos hr]
    by_cases h0 : b < 0
    · rw [if_pos h0, w1 h0]
      simp only [fuseeref01_Less.j0]
      rw [if_neg (by unfold R64 at *; simp; omega), if_neg (by omega), hr.wrap]
    · rw [if_neg h0]
      simp only [fuseeref01_Less.j0]
      by_cases h1 : b > 0
      · rw [if_neg (by simp), if_pos h1, w2 h1, if_neg (by unfold R64 at *; omega), hr.wrap]
      · rw [if_neg (by simp), if_neg h1, hr.wrap]
  · rw [if_neg hr]
    by_cases h0 : b < 0
    · rw [if_pos h0, w1 h0, if_pos (by unfold R64 at *; omega)]
      simp only [fuseeref01_Less.j0]
      rw [if_pos (by unfold R64 at *; simp; omega)]
    · rw [if_neg h0, if_neg (by unfold R64 at *; omega)]
      simp only [fuseeref01_Less.j0]
      have h1 : b > 0 := by unfold R64 at *; omega
      rw [if_neg (by simp), if_pos h1, w2 h1, if_pos (by unfold R64 at *; omega)]
theorem prBnd (x : Int) : fuseeref01_Bounded.f (rng x).1 (rng x).2 = some (sat x) := by
  unfold fuseeref01_Bounded.f rng
  by_cases h : R64 x
  · rw [if_pos h, sat_of h]; simp
  · rw [if_neg h]
    unfold R64 at h
    by_cases h0 : 0 < x
    · rw [if_pos h0]; simp; unfold sat; rw [if_neg (by omega), if_pos (by omega)]
    · rw [if_neg h0]; simp; unfold sat; rw [if_pos (by omega)]
theorem prDiv (a b : Int) (ha : R64 a) (hb : R64 b) (h : 1 ≤ b) : fuseeref01_Div.f a b = some (a / b, a % b) := by
  unfold fuseeref01_Div.f
  have hr0 := Int.emod_nonneg a (show b ≠ 0 by omega)
  have hr1 := Int.emod_lt_of_pos a (show 0 < b by omega)
  have hq := div_bounds ha h
  have ht := (tdiv_range ha h).wrap
  have hd := Int.mul_ediv_add_emod a b
  have hcomm : a / b * b = b * (a / b) := Int.mul_comm _ _
  have hlast : wrap64 (a - wrap64 (a / b * b)) = a % b := by rw [hcomm]; unfold R64 at *; unfold wrap64; omega
  rw [if_neg (by omega), ht]
  rcases Int.lt_or_le a 0 with h0 | h0
  · have e1 := tdiv_neg h0 h
    rw [if_pos h0]
    by_cases hz : a % b = 0
    · rw [if_pos hz, Int.add_zero] at e1
      have e5 : wrap64 (a / b * b) = a := by rw [hcomm, show b * (a / b) = a by omega]; exact ha.wrap
      rw [e1, if_pos e5, hlast]
    · rw [if_neg hz] at e1
      have e5 : ¬ wrap64 ((a / b + 1) * b) = a := by
        have : (a / b + 1) * b = b * (a / b) + b := by rw [Int.add_mul, hcomm, Int.one_mul]
        rw [this]; unfold R64 at *; unfold wrap64; omega
      have e6 : a / b + 1 - 1 = a / b := by omega
      rw [e1, if_neg e5, e6, hq.1.wrap, hlast]
  · rw [if_neg (by omega), tdiv_of_nonneg h0, hlast]
theorem pQCheck (q : Int) : quant_Check.f q = some (if okQ q then none else some 1) := by
  unfold quant_Check.f
  by_cases h : q < 1
  · rw [if_pos h, if_neg (by unfold okQ; omega)]
  · rw [if_neg h]
    by_cases h2 : q > 68719476736
    · rw [if_pos h2, if_neg (by unfold okQ; omega)]
    · rw [if_neg h2, if_pos (by unfold okQ; omega)]
theorem prQMay (q : Int) : fuseeref24_May.f q = some (decide (okQ q)) := by
  unfold fuseeref24_May.f
  by_cases h : q ≥ 1
  · rw [if_pos h]
    by_cases h2 : q ≤ 68719476736
    · rw [decide_eq_true h2, decide_eq_true (show okQ q by unfold okQ; omega)]
    · rw [decide_eq_false h2, decide_eq_false (show ¬ okQ q by unfold okQ; omega)]
  · rw [if_neg h, decide_eq_false (show ¬ okQ q by unfold okQ; omega)]

abbrev E46 := S46
abbrev E68 := S68
def cv (x : E68) : E46 := ⟨x.f0, x.f1, x.f2, x.f3, ⟨x.f4.f0, x.f4.f1, x.f4.f2, x.f4.f3⟩, x.f5, x.f6⟩
def own (name : ByteArray) (x : E68) : Bool := x.f1.toList == name.toList
structure Ok (x : E68) : Prop where
  q : R64 x.f3
  v : R64 x.f4.f0
  b : R64 x.f4.f1
  t : R64 x.f6
theorem wn {i : Nat} (h : i ≤ 1000) : wrap64 ((i : Int) + 1) = ((i + 1 : Nat) : Int) := by unfold wrap64; omega
theorem rdn {l : List E68} {i : Nat} (h : i < l.length) : rd_T68 l (i : Int) = l[i] := by unfold rd_T68; simp [List.getD, h]
theorem rdm {l : List E46} {i : Nat} (h : i < l.length) : rd_T46 l (i : Int) = l[i] := by unfold rd_T46; simp [List.getD, h]
theorem give_l (l : List E68) (hl : l.length ≤ 60) : ∀ (n i k : Nat) (acc : List E46), l.length - i = n → i ≤ l.length → n < k → acc.length ≤ i → fuseelaw38_give.l0 k l acc (i : Int) = some (acc ++ (l.drop i).map cv)
  | _, _, 0, _, _, _, hk, _ => absurd hk (by omega)
  | n, i, k + 1, acc, hn, hi, hk, ha => by
    unfold fuseelaw38_give.l0
    by_cases h : i < l.length
    · rw [if_pos (by omega), if_pos (by omega), if_pos (by omega), rdn h, wn (by omega), give_l l hl (n - 1) (i + 1) k _ (by omega) (by omega) (by omega) (by simp; omega), List.drop_eq_getElem_cons h, List.append_assoc]
      rfl
    · rw [if_neg (by omega), List.drop_of_length_le (by omega), List.map_nil, List.append_nil]
theorem give_eq (l : List E68) (hl : l.length ≤ 60) (k : Nat) (hk : 100 ≤ k) : fuseelaw38_give.f k l = some (l.map cv) := by
  unfold fuseelaw38_give.f
  have := give_l l hl l.length 0 k [] rfl (Nat.zero_le _) (by omega) (Nat.le_refl _)
  rw [List.drop_zero, List.nil_append] at this
  exact this
theorem rseen_l (name : ByteArray) (l : List E68) (hl : l.length ≤ 60) : ∀ (n i k : Nat) (acc : List E68), l.length - i = n → i ≤ l.length → n < k → acc.length ≤ i → fuseeref38_Seen.l0 k l name acc (i : Int) = some (acc ++ (l.drop i).filter (own name))
  | _, _, 0, _, _, _, hk, _ => absurd hk (by omega)
  | n, i, k + 1, acc, hn, hi, hk, ha => by
    unfold fuseeref38_Seen.l0
    by_cases h : i < l.length
    · rw [if_pos (by omega), if_pos (by omega), rdn h, wn (by omega), List.drop_eq_getElem_cons h]
      by_cases ho : own name l[i] = true
      · rw [if_pos (show l[i].f1.toList = name.toList from beq_iff_eq.1 ho), if_pos (by omega), rseen_l name l hl (n - 1) (i + 1) k _ (by omega) (by omega) (by omega) (by simp; omega), List.filter_cons_of_pos ho, List.append_assoc]
        rfl
      · rw [if_neg (show ¬ l[i].f1.toList = name.toList from fun e => ho (beq_iff_eq.2 e)), rseen_l name l hl (n - 1) (i + 1) k _ (by omega) (by omega) (by omega) (by omega), List.filter_cons_of_neg ho]
    · rw [if_neg (by omega), List.drop_of_length_le (by omega), List.filter_nil, List.append_nil]
theorem rseen_eq (name : ByteArray) (l : List E68) (hl : l.length ≤ 60) (k : Nat) (hk : 100 ≤ k) : fuseeref38_Seen.f k l name = some (l.filter (own name)) := by
  unfold fuseeref38_Seen.f
  have := rseen_l name l hl l.length 0 k [] rfl (Nat.zero_le _) (by omega) (Nat.le_refl _)
  rw [List.drop_zero, List.nil_append] at this
  exact this
theorem nm_cv (name : ByteArray) (x : E68) : nm name (cv x) = own name x := rfl
theorem seenV_cv (name : ByteArray) (l : List E68) : seenV name (l.map cv) = (l.filter (own name)).map cv := by
  unfold seenV
  rw [List.filter_map]
  rfl
theorem seen_eq (name : ByteArray) (l : List E46) (h : l.length ≤ 1000) : audit_Seen.f l name = some (seenV name l) := by unfold audit_Seen.f; rw [if_pos (by omega)]
/-! Back -/
def el (name : ByteArray) (x : E68) : Bool := own name x && !x.f2
def bad (name : ByteArray) (p : List E68) (x : E68) : Bool := el name x && p.any fun y => el name y && decide (x.f4.f0 < y.f4.f0)
def rb (name : ByteArray) : List E68 → List E68 → Int → Int
  | _, [], _ => -1
  | p, x :: l, i => if bad name p x = true then i else rb name (p ++ [x]) l (i + 1)
theorem back_rb (name : ByteArray) : ∀ (l p : List E68) (m : Int) (a : Bool) (i : Int), (∀ v : Int, (p.any fun y => el name y && decide (v < y.f4.f0)) = (a && decide (v < m))) → idxB name m a (l.map cv) i = rb name p l i
  | [], _, _, _, _, _ => rfl
  | x :: l, p, m, a, i, h => by
    rw [List.map_cons]
    unfold idxB rb
    have hb : (bkS name m a (cv x)).2.2 = bad name p x := by
      unfold bkS bad
      rw [h]
      show (if (!own name x || x.f2) = true then (m, a, false) else ((if a = true then (if m < x.f4.f0 then x.f4.f0 else m) else x.f4.f0), true, a && decide (x.f4.f0 < m))).2.2 = (el name x && (a && decide (x.f4.f0 < m)))
      unfold el
      cases own name x <;> cases x.f2 <;> simp
    rw [hb]
    by_cases hB : bad name p x = true
    · rw [if_pos hB, if_pos hB]
    · rw [if_neg hB, if_neg hB]
      refine back_rb name l (p ++ [x]) _ _ _ (fun v => ?_)
      rw [List.any_append, h]
      show ((a && decide (v < m)) || [x].any fun y => el name y && decide (v < y.f4.f0)) = _
      simp only [List.any_cons, List.any_nil, Bool.or_false]
      unfold bkS
      show _ = ((if (!own name x || x.f2) = true then (m, a, false) else ((if a = true then (if m < x.f4.f0 then x.f4.f0 else m) else x.f4.f0), true, a && decide (x.f4.f0 < m))).2.1 && decide (v < (if (!own name x || x.f2) = true then (m, a, false) else ((if a = true then (if m < x.f4.f0 then x.f4.f0 else m) else x.f4.f0), true, a && decide (x.f4.f0 < m))).1))
      unfold el
      cases own name x <;> cases x.f2 <;> cases a <;> simp
      split <;> rw [Bool.eq_iff_iff] <;> simp <;> omega
theorem back_eq (name : ByteArray) (l : List E68) (hl : l.length ≤ 60) : audit_Back.f (l.map cv) name = some (rb name [] l 0) := by
  unfold audit_Back.f
  rw [if_pos (by rw [List.length_map]; omega), back_rb name l [] 0 false 0 (fun v => by simp)]
theorem rb_hit (name : ByteArray) (l : List E68) (i j : Nat) (hi : i < l.length) (hj : j < i) (h1 : el name l[i] = true) (h2 : el name (l[j]'(by omega)) = true) (h3 : l[i].f4.f0 < (l[j]'(by omega)).f4.f0) : rb name (l.take i) (l.drop i) i = i := by
  rw [List.drop_eq_getElem_cons hi]
  unfold rb
  rw [if_pos]
  unfold bad
  rw [h1, Bool.true_and, List.any_eq_true]
  refine ⟨l[j]'(by omega), ?_, by rw [h2, decide_eq_true h3]; rfl⟩
  rw [List.mem_take_iff_getElem]
  exact ⟨j, by omega, rfl⟩
theorem rb_next (name : ByteArray) (l : List E68) (i : Nat) (hi : i < l.length) (h : bad name (l.take i) l[i] = false) : rb name (l.take i) (l.drop i) i = rb name (l.take (i + 1)) (l.drop (i + 1)) ((i + 1 : Nat) : Int) := by
  rw [List.drop_eq_getElem_cons hi]
  conv => lhs; unfold rb
  rw [if_neg (by rw [h]; simp), List.take_succ_eq_append_getElem hi]
  rfl
theorem bad_more (name : ByteArray) (l : List E68) (i j : Nat) (hi : i < l.length) (hj : j < i) (h : bad name (l.take j) l[i] = false) (h2 : (el name l[i] && (el name (l[j]'(by omega)) && decide (l[i].f4.f0 < (l[j]'(by omega)).f4.f0))) = false) : bad name (l.take (j + 1)) l[i] = false := by
  rw [List.take_succ_eq_append_getElem (by omega)]
  unfold bad at h ⊢
  rw [List.any_append]
  cases he : el name l[i]
  · simp
  · rw [he] at h h2
    simp only [Bool.true_and] at h h2 ⊢
    rw [h]
    simpa using h2
theorem rback_l (name : ByteArray) (l : List E68) (hl : l.length ≤ 60) : ∀ K : Nat, (∀ i k, i ≤ l.length → (l.length - i) * 100 < k → k ≤ K → fuseeref38_Back.l0 k l name (i : Int) = some (rb name (l.take i) (l.drop i) i)) ∧
    (∀ i j k, ∀ hi : i < l.length, j ≤ i → (l.length - i - 1) * 100 + (i - j) + 2 ≤ k → k ≤ K → bad name (l.take j) l[i] = false → fuseeref38_Back.l1 k l name (i : Int) (j : Int) = some (rb name (l.take i) (l.drop i) i))
  | 0 => ⟨fun _ _ _ _ _ => by omega, fun _ _ _ _ _ _ _ => by omega⟩
  | K + 1 => by
    obtain ⟨I0, I1⟩ := rback_l name l hl K
    refine ⟨fun i k hi hk hK => ?_, fun i j k hi hj hk hK hb => ?_⟩
    · obtain ⟨k, rfl⟩ : ∃ k', k = k' + 1 := ⟨k - 1, by omega⟩
      unfold fuseeref38_Back.l0
      by_cases h : i < l.length
      · rw [if_pos (by omega)]
        exact I1 i 0 k h (Nat.zero_le _) (by omega) (by omega) (by unfold bad; simp)
      · rw [if_neg (by omega), List.drop_of_length_le (by omega)]
        rfl
    · obtain ⟨k, rfl⟩ : ∃ k', k = k' + 1 := ⟨k - 1, by omega⟩
      unfold fuseeref38_Back.l1
      by_cases h : j < i
      · have hjl : j < l.length := by omega
        rw [if_pos (show (j : Int) < (i : Int) by omega), if_pos (show (0 : Int) ≤ (i : Int) by omega), if_pos (show (i : Int) < (l.length : Int) by omega), rdn hi, rdn hjl, wn (by omega)]
        have nx : (el name l[i] && (el name l[j] && decide (l[i].f4.f0 < l[j].f4.f0))) = false → fuseeref38_Back.l1 k l name (i : Int) ((j + 1 : Nat) : Int) = some (rb name (l.take i) (l.drop i) i) := fun h2 => I1 i (j + 1) k hi (by omega) (by omega) (by omega) (bad_more name l i j hi h hb h2)
        by_cases o1 : l[i].f1.toList = name.toList
        · rw [if_pos o1, if_pos (show (0 : Int) ≤ (j : Int) by omega), if_pos (show (j : Int) < (l.length : Int) by omega)]
          have w1 : own name l[i] = true := beq_iff_eq.2 o1
          by_cases o2 : l[j].f1.toList = name.toList
          · have w2 : own name l[j] = true := beq_iff_eq.2 o2
            rw [if_pos o2]
            by_cases s1 : l[i].f2 = true
            · rw [if_pos s1]; exact nx (by unfold el; rw [s1]; simp)
            · rw [if_neg s1]
              by_cases s2 : l[j].f2 = true
              · rw [if_pos s2]; exact nx (by unfold el; rw [s2]; simp)
              · rw [if_neg s2]
                by_cases v : l[i].f4.f0 < l[j].f4.f0
                · rw [if_pos v, rb_hit name l i j hi h (by unfold el; rw [w1]; simp [s1]) (by unfold el; rw [w2]; simp [s2]) v]
                · rw [if_neg v]; exact nx (by rw [decide_eq_false v]; simp)
          · rw [if_neg o2]
            have w2 : own name l[j] = false := by simpa [own] using o2
            exact nx (by unfold el; rw [w2]; simp)
        · rw [if_neg o1]
          have w1 : own name l[i] = false := by simpa [own] using o1
          exact nx (by unfold el; rw [w1]; simp)
      · obtain rfl : j = i := by omega
        rw [if_neg (by omega), wn (by omega), rb_next name l j hi hb]
        exact I0 (j + 1) k (by omega) (by omega) (by omega)
theorem rback_eq (name : ByteArray) (l : List E68) (hl : l.length ≤ 60) (k : Nat) (hk : 6001 ≤ k) : fuseeref38_Back.f k l name = some (rb name [] l 0) := by
  unfold fuseeref38_Back.f
  have := (rback_l name l hl k).1 0 k (Nat.zero_le _) (by omega) (Nat.le_refl _)
  rw [List.take_zero, List.drop_zero] at this
  exact this
theorem down_fact (k : Nat) (v q : Int) (hv : R64 v) (hq : R64 q) : ∃ (d e : Int) (b : Bool), fuseeref24_Down.f (k + 1) v q = some (d, e) ∧ quant_Is.f v q = some b ∧ ((e = 0 ∧ d = v) ↔ b = true) := by
  unfold fuseeref24_Down.f quant_Is.f
  rw [prQMay, pQCheck]
  by_cases h : okQ q
  · rw [if_pos h, decide_eq_true h]
    have hm := Int.emod_nonneg v (show q ≠ 0 by unfold okQ at h; omega)
    have hlt := Int.emod_lt_of_pos v (show 0 < q by unfold okQ at h; omega)
    simp only [Option.bind_some, if_true, Option.isNone_none]
    rw [prDiv v q hv hq h.1, if_neg (show ¬ q = 0 by unfold okQ at h; omega)]
    simp only [Option.bind_some]
    rw [prLess k v (v % q) hv (by unfold R64 okQ at *; omega)]
    simp only [Option.bind_some]
    have ht : (Int.tmod v q == 0) = decide (v % q = 0) := by
      rw [Bool.eq_iff_iff]
      simp only [beq_iff_eq, decide_eq_true_eq]
      rw [← Int.dvd_iff_tmod_eq_zero, ← Int.dvd_iff_emod_eq_zero]
    by_cases hr : R64 (v - v % q)
    · refine ⟨v - v % q, 0, _, by unfold rng; rw [if_pos hr]; simp, rfl, ?_⟩
      rw [ht, decide_eq_true_eq]
      omega
    · refine ⟨0, 2, _, ?_, rfl, ?_⟩
      · unfold rng; rw [if_neg hr, if_neg (by split <;> omega)]
      · rw [ht, decide_eq_true_eq]
        constructor
        · intro h; omega
        · intro h0; rw [h0, Int.sub_zero] at hr; exact absurd hv hr
  · rw [if_neg h, decide_eq_false h]
    exact ⟨0, 1, false, rfl, rfl, by simp⟩
theorem coarse_l (name : ByteArray) (l : List E68) (hl : l.length ≤ 60) (hok : ∀ x ∈ l, Ok x) : ∀ (n i k : Nat), l.length - i = n → i ≤ l.length → n + 1 < k → ∃ r, fuseeref38_Coarse.l0 k l name (i : Int) = some r ∧ idx (coarseP name) ((l.drop i).map cv) (i : Int) = some r
  | _, _, 0, _, _, hk => absurd hk (by omega)
  | n, i, k + 1, hn, hi, hk => by
    obtain ⟨k, rfl⟩ : ∃ k', k = k' + 1 := ⟨k - 1, by omega⟩
    unfold fuseeref38_Coarse.l0
    by_cases h : i < l.length
    · obtain ⟨r, ih1, ih2⟩ := coarse_l name l hl hok (n - 1) (i + 1) (k + 1) (by omega) (by omega) (by omega)
      rw [if_pos (by omega), if_pos (by omega), rdn h, wn (by omega), List.drop_eq_getElem_cons h, List.map_cons]
      have hx := hok l[i] (List.getElem_mem h)
      by_cases o : l[i].f1.toList = name.toList
      · have w : own name l[i] = true := beq_iff_eq.2 o
        rw [if_pos o]
        obtain ⟨d, e, b, h1, h2, h3⟩ := down_fact k l[i].f4.f0 l[i].f3 hx.v hx.q
        have hp : coarseP name (cv l[i]) = some (!b) := by
          show (if own name l[i] = true then (quant_Is.f l[i].f4.f0 l[i].f3).map (fun q => !q) else some false) = _
          rw [if_pos w, h2]; rfl
        rw [h1]
        unfold idx
        rw [hp]
        simp only [Option.bind_some]
        cases b with
        | true =>
          have e3 := h3.2 rfl
          rw [if_pos e3.1, if_pos e3.2]
          exact ⟨r, ih1, ih2⟩
        | false =>
          refine ⟨i, ?_, rfl⟩
          by_cases e0 : e = 0
          · rw [if_pos e0, if_neg (fun hd => by have := h3.1 ⟨e0, hd⟩; cases this)]
          · rw [if_neg e0]
      · have w : own name l[i] = false := by simpa [own] using o
        have hp : coarseP name (cv l[i]) = some false := by
          show (if own name l[i] = true then (quant_Is.f l[i].f4.f0 l[i].f3).map (fun q => !q) else some false) = _
          rw [if_neg (by rw [w]; simp)]
        rw [if_neg o]
        unfold idx
        rw [hp]
        exact ⟨r, ih1, ih2⟩
    · rw [if_neg (by omega), List.drop_of_length_le (by omega)]
      exact ⟨-1, rfl, rfl⟩
theorem coarse_eq (name : ByteArray) (l : List E68) (hl : l.length ≤ 60) (hok : ∀ x ∈ l, Ok x) (k : Nat) (hk : 100 ≤ k) : ∃ r, fuseeref38_Coarse.f k l name = some r ∧ audit_Coarse.f (l.map cv) name = some r := by
  obtain ⟨r, h1, h2⟩ := coarse_l name l hl hok l.length 0 k rfl (Nat.zero_le _) (by omega)
  rw [List.drop_zero] at h2
  refine ⟨r, h1, ?_⟩
  unfold audit_Coarse.f
  rw [if_pos (by rw [List.length_map]; omega)]
  exact h2
def fb (x : E68) : Bool := decide (sat (x.f4.f0 - x.f6) > x.f4.f1) || decide (sat (x.f6 - x.f4.f0) > x.f4.f1)
theorem far_fact (x : E68) (hx : Ok x) : audit_Event_far.f x.f0 x.f1 x.f2 x.f3 x.f4.f0 x.f4.f1 x.f4.f2 x.f4.f3 x.f5 x.f6 = some (fb x) := by
  unfold audit_Event_far.f fb
  rw [pSubSat _ _ hx.v hx.t, pSubSat _ _ hx.t hx.v]
  simp only [Option.bind_some]
  by_cases h : sat (x.f4.f0 - x.f6) > x.f4.f1
  · rw [if_pos h, decide_eq_true h]; rfl
  · rw [if_neg h, decide_eq_false h]; rfl
theorem far_l (name : ByteArray) (l : List E68) (hl : l.length ≤ 60) (hok : ∀ x ∈ l, Ok x) : ∀ (n i k : Nat), l.length - i = n → i ≤ l.length → n + 1 < k → ∃ r, fuseeref38_Far.l0 k l name (i : Int) = some r ∧ idx (farP name) ((l.drop i).map cv) (i : Int) = some r
  | _, _, 0, _, _, hk => absurd hk (by omega)
  | n, i, k + 1, hn, hi, hk => by
    obtain ⟨k, rfl⟩ : ∃ k', k = k' + 1 := ⟨k - 1, by omega⟩
    unfold fuseeref38_Far.l0
    by_cases h : i < l.length
    · obtain ⟨r, ih1, ih2⟩ := far_l name l hl hok (n - 1) (i + 1) (k + 1) (by omega) (by omega) (by omega)
      rw [if_pos (by omega), if_pos (by omega), rdn h, wn (by omega), List.drop_eq_getElem_cons h, List.map_cons]
      have hx := hok l[i] (List.getElem_mem h)
      rw [prLess k _ _ hx.v hx.t, prLess k _ _ hx.t hx.v]
      simp only [Option.bind_some]
      rw [prBnd, prBnd]
      simp only [Option.bind_some]
      have hp : farP name (cv l[i]) = some (own name l[i] && (l[i].f5 && (!l[i].f2 && fb l[i]))) := by
        show (if own name l[i] = true then (audit_Event_far.f l[i].f0 l[i].f1 l[i].f2 l[i].f3 l[i].f4.f0 l[i].f4.f1 l[i].f4.f2 l[i].f4.f3 l[i].f5 l[i].f6).map (fun q => l[i].f5 && (!l[i].f2 && q)) else some false) = _
        rw [far_fact _ hx]
        cases own name l[i] <;> rfl
      unfold idx
      rw [hp, Option.bind_some]
      by_cases o : l[i].f1.toList = name.toList
      · have w : own name l[i] = true := beq_iff_eq.2 o
        rw [if_pos o, w]
        cases l[i].f5 with
        | false => exact ⟨r, by simpa using ih1, by simpa using ih2⟩
        | true =>
          cases l[i].f2 with
          | true => exact ⟨r, by simpa using ih1, by simpa using ih2⟩
          | false =>
            rw [if_pos rfl, if_neg (by simp)]
            unfold fb
            by_cases f1 : sat (l[i].f4.f0 - l[i].f6) > l[i].f4.f1
            · rw [if_pos f1, decide_eq_true f1]
              exact ⟨i, rfl, by simp⟩
            · rw [if_neg f1, decide_eq_false f1]
              by_cases f2 : sat (l[i].f6 - l[i].f4.f0) > l[i].f4.f1
              · rw [if_pos f2, decide_eq_true f2]
                exact ⟨i, rfl, by simp⟩
              · rw [if_neg f2, decide_eq_false f2]
                exact ⟨r, ih1, by simpa using ih2⟩
      · have w : own name l[i] = false := by simpa [own] using o
        rw [if_neg o, w]
        exact ⟨r, ih1, by simpa using ih2⟩
    · rw [if_neg (by omega), List.drop_of_length_le (by omega)]
      exact ⟨-1, rfl, rfl⟩
theorem far_eq (name : ByteArray) (l : List E68) (hl : l.length ≤ 60) (hok : ∀ x ∈ l, Ok x) (k : Nat) (hk : 100 ≤ k) : ∃ r, fuseeref38_Far.f k l name = some r ∧ audit_Far.f (l.map cv) name = some r := by
  obtain ⟨r, h1, h2⟩ := far_l name l hl hok l.length 0 k rfl (Nat.zero_le _) (by omega)
  rw [List.drop_zero] at h2
  refine ⟨r, h1, ?_⟩
  unfold audit_Far.f
  rw [if_pos (by rw [List.length_map]; omega)]
  exact h2
def eq5 (x y : E68) : Bool := x.f2 == y.f2 && (x.f3 == y.f3 && (x.f4.f0 == y.f4.f0 && (x.f4.f1 == y.f4.f1 && (x.f4.f2 == y.f4.f2 && x.f4.f3 == y.f4.f3))))
theorem same_fact (name : ByteArray) (x y : E68) (hx : own name x = true) (hy : own name y = true) : audit_Same_1.f (cv x).f0 (cv x).f1 (cv x).f2 (cv x).f3 (cv x).f4.f0 (cv x).f4.f1 (cv x).f4.f2 (cv x).f4.f3 (cv x).f5 (cv x).f6 (cv y).f0 (cv y).f1 (cv y).f2 (cv y).f3 (cv y).f4.f0 (cv y).f4.f1 (cv y).f4.f2 (cv y).f4.f3 (cv y).f5 (cv y).f6 = some (eq5 x y) := by
  have e : (x.f1.toList == y.f1.toList) = true := by
    have h1 : x.f1.toList = name.toList := beq_iff_eq.1 hx
    have h2 : y.f1.toList = name.toList := beq_iff_eq.1 hy
    rw [h1, h2]; simp
  unfold audit_Same_1.f audit_Event_told.f cv eq5
  simp only [Option.bind_some, e, BEq.rfl, Bool.true_and, Bool.and_true, Bool.and_assoc]
def sameV (s t : List E68) : Bool := decide (s.length = t.length) && (s.zip t).all fun p => eq5 p.1 p.2
theorem psame_l (name : ByteArray) (s t : List E68) (hs : ∀ x ∈ s, own name x = true) (ht : ∀ x ∈ t, own name x = true) (hl : s.length ≤ 60) (he : s.length = t.length) : ∀ (n i k : Nat), s.length - i = n → i ≤ s.length → n < k → audit_Event_48_at49.l0 k (t.map cv) (s.map cv) (s.length : Int) (i : Int) = some (((s.drop i).zip (t.drop i)).all fun p => eq5 p.1 p.2)
  | _, _, 0, _, _, hk => absurd hk (by omega)
  | n, i, k + 1, hn, hi, hk => by
    unfold audit_Event_48_at49.l0
    by_cases h : i < s.length
    · have h2 : i < t.length := by omega
      have e1 : rd_T46 (s.map cv) (i : Int) = cv s[i] := by rw [rdm (by rw [List.length_map]; exact h), List.getElem_map]
      have e2 : rd_T46 (t.map cv) (i : Int) = cv t[i] := by rw [rdm (by rw [List.length_map]; exact h2), List.getElem_map]
      rw [if_pos (by omega), if_pos (by omega), if_pos (by rw [List.length_map]; omega), if_pos (by rw [List.length_map]; omega), e1, e2, same_fact name _ _ (hs _ (List.getElem_mem h)) (ht _ (List.getElem_mem h2)), Option.bind_some, wn (by omega), psame_l name s t hs ht hl he (n - 1) (i + 1) k (by omega) (by omega) (by omega), List.drop_eq_getElem_cons h, List.drop_eq_getElem_cons h2, List.zip_cons_cons, List.all_cons]
      cases eq5 s[i] t[i] <;> simp
    · rw [if_neg (by omega), List.drop_of_length_le (show s.length ≤ i by omega)]
      simp
theorem psame_eq (name : ByteArray) (l m : List E68) (hl : l.length ≤ 60) (hm : m.length ≤ 60) (k : Nat) (hk : 100 ≤ k) : audit_Same.f k (l.map cv) (m.map cv) name = some (sameV (l.filter (own name)) (m.filter (own name))) := by
  have l1 := List.length_filter_le (own name) l
  unfold audit_Same.f
  rw [seen_eq _ _ (by rw [List.length_map]; omega), seen_eq _ _ (by rw [List.length_map]; omega), seenV_cv, seenV_cv, Option.bind_some, Option.bind_some]
  unfold audit_Event_48_at49.f sameV
  rw [List.length_map, List.length_map]
  by_cases h : (l.filter (own name)).length = (m.filter (own name)).length
  · have := psame_l name (l.filter (own name)) (m.filter (own name)) (fun x hx => (List.mem_filter.1 hx).2) (fun x hx => (List.mem_filter.1 hx).2) (by omega) h _ 0 k rfl (Nat.zero_le _) (by omega)
    rw [List.drop_zero, List.drop_zero, show ((0 : Nat) : Int) = 0 from rfl] at this
    rw [if_pos (by omega), this, decide_eq_true h]
    simp
  · rw [if_neg (by omega), decide_eq_false h]
    simp
theorem rsame_l (s t : List E68) (hl : s.length ≤ 60) (he : s.length = t.length) : ∀ (n i k : Nat), s.length - i = n → i ≤ s.length → n < k → fuseeref38_Same.l0 k s t (i : Int) = some (((s.drop i).zip (t.drop i)).all fun p => eq5 p.1 p.2)
  | _, _, 0, _, _, hk => absurd hk (by omega)
  | n, i, k + 1, hn, hi, hk => by
    unfold fuseeref38_Same.l0
    by_cases h : i < s.length
    · have h2 : i < t.length := by omega
      rw [if_pos (by omega), if_pos (by omega), if_pos (by omega), rdn h, rdn h2, wn (by omega), rsame_l s t hl he (n - 1) (i + 1) k (by omega) (by omega) (by omega), List.drop_eq_getElem_cons h, List.drop_eq_getElem_cons h2, List.zip_cons_cons, List.all_cons]
      generalize ((s.drop (i + 1)).zip (t.drop (i + 1))).all (fun p => eq5 p.1 p.2) = R
      generalize s[i] = x
      generalize t[i] = y
      unfold eq5
      by_cases g2 : x.f2 = y.f2
      · rw [if_neg (by rw [g2]; simp)]
        by_cases g3 : x.f3 = y.f3
        · rw [if_pos g3, g2, g3]
          simp only [BEq.rfl, Bool.true_and]
          by_cases g4 : (x.f4.f0 == y.f4.f0 && (x.f4.f1 == y.f4.f1 && (x.f4.f2 == y.f4.f2 && x.f4.f3 == y.f4.f3))) = true
          · rw [g4, if_neg]
            · simp
            · simp only [Bool.and_eq_true] at g4
              rw [g4.1, g4.2.1, g4.2.2.1, g4.2.2.2]; simp
          · rw [Bool.not_eq_true] at g4
            rw [g4, if_pos]
            · simp
            · simp only [← Bool.not_and]
              rw [g4]; rfl
        · rw [if_neg g3, beq_false_of_ne g3]; simp
      · rw [if_pos (by simpa using g2), beq_false_of_ne g2]; simp
    · rw [if_neg (by omega), List.drop_of_length_le (show s.length ≤ i by omega)]
      simp
theorem rsame_eq (name : ByteArray) (l m : List E68) (hl : l.length ≤ 60) (hm : m.length ≤ 60) (k : Nat) (hk : 100 ≤ k) : fuseeref38_Same.f k l m name = some (sameV (l.filter (own name)) (m.filter (own name))) := by
  have l1 := List.length_filter_le (own name) l
  unfold fuseeref38_Same.f sameV
  rw [rseen_eq name l hl k hk, rseen_eq name m hm k hk, Option.bind_some, Option.bind_some]
  by_cases h : (l.filter (own name)).length = (m.filter (own name)).length
  · have := rsame_l (l.filter (own name)) (m.filter (own name)) (by omega) h _ 0 k rfl (Nat.zero_le _) (by omega)
    rw [List.drop_zero, List.drop_zero] at this
    rw [if_pos (by omega), decide_eq_true h]
    simpa using this
  · rw [if_neg (by omega), decide_eq_false h]
    simp
def worstV (s : List E68) : Int := match s with
  | [] => 0
  | x :: t => t.foldl (fun m y => mx m y.f4.f1) x.f4.f1
theorem pworst_l (s : List E68) (hl : s.length ≤ 60) : ∀ (n i k : Nat) (m : Int), s.length - i = n → i ≤ s.length → n < k → audit_Worst.l0 k m true (s.map cv) (s.length : Int) (i : Int) = some ((s.drop i).foldl (fun m y => mx m y.f4.f1) m)
  | _, _, 0, _, _, _, hk => absurd hk (by omega)
  | n, i, k + 1, m, hn, hi, hk => by
    unfold audit_Worst.l0
    by_cases h : i < s.length
    · have e1 : rd_T46 (s.map cv) (i : Int) = cv s[i] := by rw [rdm (by rw [List.length_map]; exact h), List.getElem_map]
      have ih := fun m => pworst_l s hl (n - 1) (i + 1) k m (by omega) (by omega) (by omega)
      rw [if_pos (by omega), if_pos (by omega), if_pos (by rw [List.length_map]; omega), if_pos rfl, e1, wn (by omega), List.drop_eq_getElem_cons h, List.foldl_cons]
      show (if s[i].f4.f1 > m then audit_Worst.l0 k s[i].f4.f1 true (s.map cv) (s.length : Int) ((i + 1 : Nat) : Int) else audit_Worst.l0 k m true (s.map cv) (s.length : Int) ((i + 1 : Nat) : Int)) = _
      by_cases g : m < s[i].f4.f1
      · rw [if_pos g, ih, show mx m s[i].f4.f1 = s[i].f4.f1 from if_pos g]
      · rw [if_neg g, ih, show mx m s[i].f4.f1 = m from if_neg g]
    · rw [if_neg (by omega), List.drop_of_length_le (by omega)]
      rfl
theorem pworst_eq (name : ByteArray) (l : List E68) (hl : l.length ≤ 60) (k : Nat) (hk : 100 ≤ k) : audit_Worst.f k (l.map cv) name = some (worstV (l.filter (own name))) := by
  have l1 := List.length_filter_le (own name) l
  unfold audit_Worst.f
  rw [seen_eq _ _ (by rw [List.length_map]; omega), seenV_cv, Option.bind_some, List.length_map]
  obtain ⟨k, rfl⟩ : ∃ k', k = k' + 1 := ⟨k - 1, by omega⟩
  generalize hs : l.filter (own name) = s at l1 ⊢
  unfold audit_Worst.l0
  cases s with
  | nil => rfl
  | cons x t =>
    have := pworst_l (x :: t) (by omega) t.length 1 k x.f4.f1 (by simp) (by simp) (by simp at l1; omega)
    rw [if_pos (by simp), if_pos (by omega), if_pos (by simp), if_neg (by simp), show wrap64 (0 + 1) = ((1 : Nat) : Int) from wn (i := 0) (by omega)]
    exact this
theorem rworst_l (s : List E68) (hl : s.length ≤ 60) : ∀ (n i k : Nat) (m : Int), s.length - i = n → i ≤ s.length → n < k → fuseeref38_Worst.l0 k s m (i : Int) = some ((s.drop i).foldl (fun m y => mx m y.f4.f1) m)
  | _, _, 0, _, _, _, hk => absurd hk (by omega)
  | n, i, k + 1, m, hn, hi, hk => by
    unfold fuseeref38_Worst.l0
    by_cases h : i < s.length
    · rw [if_pos (by omega), if_pos (by omega), rdn h, wn (by omega), rworst_l s hl (n - 1) (i + 1) k _ (by omega) (by omega) (by omega), List.drop_eq_getElem_cons h, List.foldl_cons]
    · rw [if_neg (by omega), List.drop_of_length_le (by omega)]
      rfl
theorem rworst_eq (name : ByteArray) (l : List E68) (hl : l.length ≤ 60) (k : Nat) (hk : 100 ≤ k) : fuseeref38_Worst.f k l name = some (worstV (l.filter (own name))) := by
  have l1 := List.length_filter_le (own name) l
  unfold fuseeref38_Worst.f
  rw [rseen_eq name l hl k hk, Option.bind_some]
  generalize hs : l.filter (own name) = s at l1 ⊢
  cases s with
  | nil => rfl
  | cons x t =>
    have := rworst_l (x :: t) (by omega) (t.length + 1) 0 k x.f4.f1 (by simp) (by simp) (by simp at l1; omega)
    rw [if_neg (by simp; omega), if_pos (by simp), show rd_T68 (x :: t) 0 = x from rfl]
    rw [List.drop_zero, List.foldl_cons, show mx x.f4.f1 x.f4.f1 = x.f4.f1 from if_neg (by omega)] at this
    exact this

/-- what the law asks behind its loop -/
def restT (k : Nat) (x0 x1 : List E68) (x2 : ByteArray) (x7 x8 : List E46) : Option Bool := ((audit_Back.f x7 x2).bind fun t243 => ((fuseeref38_Back.f k x0 x2).bind fun t244 => (if t243 = t244 then ((audit_Coarse.f x7 x2).bind fun t245 => ((fuseeref38_Coarse.f k x0 x2).bind fun t246 => (if t245 = t246 then ((audit_Far.f x7 x2).bind fun t247 => ((fuseeref38_Far.f k x0 x2).bind fun t248 => (if t247 = t248 then ((audit_Same.f k x7 x8 x2).bind fun t249 => ((fuseeref38_Same.f k x0 x1 x2).bind fun t250 => (if (t249 == t250) = true then ((audit_Worst.f k x7 x2).bind fun t251 => ((fuseeref38_Worst.f k x0 x2).bind fun t252 => (if t251 = t252 then ((fuseelaw38_sure.f k).bind fun t253 => (some t253)) else (none)))) else (none)))) else (none)))) else (none)))) else (none))))
theorem sure_at (k : Nat) (hk : 40 ≤ k) : fuseelaw38_sure.f k = some true :=
  at_rounds (g := fuseelaw38_sure.f) (fun k => fuseelaw38_sure.mono k) hk (by decide +kernel)
theorem tells_l (l m : List E68) (name : ByteArray) (x7 x8 s : List E46) (hl : s.length ≤ 60) (hr : ∀ k, 6100 ≤ k → restT k l m name x7 x8 = some true) : ∀ (n i k : Nat), s.length - i = n → i ≤ s.length → n + 6100 < k → fuseelaw38_AuditTells.l0 k l m name x7 x8 s s (i : Int) = some true
  | _, _, 0, _, _, hk => absurd hk (by omega)
  | n, i, k + 1, hn, hi, hk => by
    unfold fuseelaw38_AuditTells.l0
    by_cases h : i < s.length
    · rw [if_pos (by omega), if_pos (by omega), if_pos (by omega), if_neg (by simp), wn (by omega)]
      exact tells_l l m name x7 x8 s hl hr (n - 1) (i + 1) k (by omega) (by omega) (by omega)
    · rw [if_neg (by omega)]
      exact hr k (by omega)
theorem rest_eq (l m : List E68) (name : ByteArray) (hl : l.length ≤ 60) (hm : m.length ≤ 60) (hok : ∀ x ∈ l, Ok x) (k : Nat) (hk : 6100 ≤ k) : restT k l m name (l.map cv) (m.map cv) = some true := by
  obtain ⟨c, c1, c2⟩ := coarse_eq name l hl hok k (by omega)
  obtain ⟨f, f1, f2⟩ := far_eq name l hl hok k (by omega)
  unfold restT
  rw [back_eq name l hl, rback_eq name l hl k (by omega), c1, c2, f1, f2, psame_eq name l m hl hm k (by omega), rsame_eq name l m hl hm k (by omega), pworst_eq name l hl k (by omega), rworst_eq name l hl k (by omega), sure_at k (by omega)]
  simp only [Option.bind_some, if_true, BEq.rfl]
theorem main_eq (l m : List E68) (name : ByteArray) (hok : ∀ x ∈ l, Ok x) : fuseelaw38_AuditTells.f 7000 l m name = some true := by
  obtain ⟨k, hk, e7⟩ : ∃ k, 6999 ≤ k ∧ 7000 = k + 1 := ⟨6999, by omega, rfl⟩
  rw [e7]
  unfold fuseelaw38_AuditTells.f
  have S : fuseelaw38_AuditTells.j0 (k + 1) l m name true = some true := by
    unfold fuseelaw38_AuditTells.j0
    simp only [if_true]
    rw [sure_at k (by omega)]
    rfl
  by_cases h1 : (l.length : Int) > 60
  · rw [if_pos h1]; exact S
  · rw [if_neg h1]
    by_cases h2 : (m.length : Int) > 60
    · rw [decide_eq_true h2]; exact S
    · rw [decide_eq_false h2]
      have hl : l.length ≤ 60 := by omega
      have hm : m.length ≤ 60 := by omega
      have l1 := List.length_filter_le (own name) l
      unfold fuseelaw38_AuditTells.j0
      simp only [Bool.false_eq_true, if_false]
      rw [give_eq l hl _ (by omega), give_eq m hm _ (by omega), Option.bind_some, Option.bind_some, seen_eq _ _ (by rw [List.length_map]; omega), rseen_eq name l hl _ (by omega), Option.bind_some, Option.bind_some, give_eq _ (by omega) _ (by omega), Option.bind_some, seenV_cv, if_pos rfl]
      exact tells_l l m name (l.map cv) (m.map cv) _ (by rw [List.length_map]; omega) (fun k hk => rest_eq l m name hl hm hok k hk) _ 0 _ rfl (Nat.zero_le _) (by rw [List.length_map]; omega)
theorem done (l m : List S68) (name : ByteArray) (hl : l.length ≤ maxLen) (hr : ∀ x ∈ l, (Lit.int .i64 x.f0).wf = true ∧ x.f1.size ≤ maxLen ∧ (Lit.int .i64 x.f3).wf = true ∧ (Lit.int .i64 x.f4.f0).wf = true ∧ (Lit.int .i64 x.f4.f1).wf = true ∧ (Lit.int .i64 x.f4.f2).wf = true ∧ (Lit.int .i64 x.f4.f3).wf = true ∧ (Lit.int .i64 x.f6).wf = true) (hm : m.length ≤ maxLen) (hr2 : ∀ x ∈ m, (Lit.int .i64 x.f0).wf = true ∧ x.f1.size ≤ maxLen ∧ (Lit.int .i64 x.f3).wf = true ∧ (Lit.int .i64 x.f4.f0).wf = true ∧ (Lit.int .i64 x.f4.f1).wf = true ∧ (Lit.int .i64 x.f4.f2).wf = true ∧ (Lit.int .i64 x.f4.f3).wf = true ∧ (Lit.int .i64 x.f6).wf = true) (hs : name.size ≤ 140737488351232) : ∃ k, fuseelaw38_AuditTells.f k l m name = some true :=
  ⟨7000, main_eq l m name (fun x hx => have h := hr x hx; ⟨R64.of_wf h.2.2.1, R64.of_wf h.2.2.2.1, R64.of_wf h.2.2.2.2.1, R64.of_wf h.2.2.2.2.2.2.2⟩)⟩
end Go.Proofs.Ytiljnlhmeolhfaa.MAuditTells
