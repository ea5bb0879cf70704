/-
  The reference's sum of bytes is prf's.
-/
import Derived.Test.YtiljnlhmeolhfaaRs
namespace Go.Proofs.Ytiljnlhmeolhfaa.MPf
open Go.RowKit Go.Proofs.YtiljnlhmeolhfaaW.PrintWords Go.Proofs.YtiljnlhmeolhfaaW.PrintLast Go.Proofs.YtiljnlhmeolhfaaW.PrintMore
set_option linter.unusedVariables false
set_option linter.unusedSimpArgs false

def allN (l : List Int) (N : Int) : List Int := l ++ List.replicate (7 - l.length % 8) 0 ++ [N % 256]
theorem allN_length (l : List Int) (N : Int) : (allN l N).length = l.length + (8 - l.length % 8) := by simp [allN]; omega
theorem byte_last (l : List Int) (N : Int) (hl : ∀ c ∈ l, 0 ≤ c ∧ c < 256) : ∀ c ∈ lastB l N, 0 ≤ c ∧ c < 256 := by
  intro c hc
  unfold lastB at hc
  simp only [List.mem_append, List.mem_replicate, List.mem_singleton] at hc
  rcases hc with (h | ⟨_, rfl⟩) | rfl
  · exact hl c h
  · omega
  · omega
theorem absorb_eq : ∀ (n : Nat) (s : St4) (l : List Int) (N : Int), l.length ≤ n → (∀ c ∈ l, 0 ≤ c ∧ c < 256) →
    absorbR ((allN l N).length / 8) s (allN l N) = takeS (absorb n s l).1 (wordV (lastB (absorb n s l).2 N)) := by
  intro n
  induction n with
  | zero =>
    intro s l N hn hl
    obtain rfl : l = [] := List.eq_nil_of_length_eq_zero (by omega)
    rw [absorb_end 0 s [] (by decide), (word_eq (lastB [] N) (lastB_length _ _ (by decide)) (byte_last _ _ hl)).1]
    have e : allN [] N = lastB [] N := rfl
    rw [e, lastB_length _ _ (by decide)]
    show absorbR 1 s (lastB [] N) = _
    simp only [absorbR]
    rw [List.take_of_length_le (by rw [lastB_length _ _ (by decide)]; omega)]
  | succ n ih =>
    intro s l N hn hl
    by_cases h8 : l.length < 8
    · rw [absorb_end _ s l h8, (word_eq (lastB l N) (lastB_length _ _ h8) (byte_last _ _ hl)).1]
      have e : allN l N = lastB l N := by unfold allN lastB; rw [Nat.mod_eq_of_lt h8]
      rw [e, lastB_length _ _ h8]
      show absorbR 1 s (lastB l N) = _
      simp only [absorbR]
      rw [List.take_of_length_le (by rw [lastB_length _ _ h8]; omega)]
    · have h8' : 8 ≤ l.length := by omega
      rw [absorb_step n s l h8']
      have hd : (l.drop 8).length = l.length - 8 := List.length_drop
      have e1 : (allN l N).drop 8 = allN (l.drop 8) N := by
        unfold allN
        rw [List.append_assoc, List.drop_append_of_le_length h8', hd, show (l.length - 8) % 8 = l.length % 8 by omega, List.append_assoc]
      have e2 : (allN l N).take 8 = l.take 8 := by
        unfold allN
        rw [List.append_assoc, List.take_append_of_le_length h8']
      have e3 : (allN l N).length / 8 = (allN (l.drop 8) N).length / 8 + 1 := by
        rw [allN_length, allN_length, hd]; omega
      rw [e3]
      simp only [absorbR]
      rw [e1, e2, (word_eq (l.take 8) (by rw [List.length_take]; omega) (fun c hc => hl c (List.mem_of_mem_take hc))).1]
      exact ih _ (l.drop 8) N (by omega) (fun c hc => hl c (List.mem_of_mem_drop hc))
theorem refSum_eq (kl kh b : List Int) (h1 : kl.length = 8) (h2 : kh.length = 8) (b1 : ∀ c ∈ kl, 0 ≤ c ∧ c < 256) (b2 : ∀ c ∈ kh, 0 ≤ c ∧ c < 256) (hb : ∀ c ∈ b, 0 ≤ c ∧ c < 256) : refSumV kl kh b = sumV kl kh b := by
  unfold refSumV sumV
  simp only
  rw [← (word_eq kl h1 b1).1, ← (word_eq kh h2 b2).1]
  exact congrArg endS (absorb_eq b.length _ b (b.length : Int) (Nat.le_refl _) hb)
def fuseeref23_Sum.f (a0_0 : Int) (a0_1 : Int) (a0_2 : Int) (a0_3 : Int) (a0_4 : Int) (a0_5 : Int) (a0_6 : Int) (a0_7 : Int) (a0_8 : Int) (a0_9 : Int) (a0_10 : Int) (a0_11 : Int) (a0_12 : Int) (a0_13 : Int) (a0_14 : Int) (a0_15 : Int) (l1 : List Int) : Option Int := if l1.length ≤ 140737488351232 then some (refSumV [a0_0, a0_1, a0_2, a0_3, a0_4, a0_5, a0_6, a0_7] [a0_8, a0_9, a0_10, a0_11, a0_12, a0_13, a0_14, a0_15] l1) else none
theorem fuseeref23_Sum.calls (a0_0 : Int) (a0_1 : Int) (a0_2 : Int) (a0_3 : Int) (a0_4 : Int) (a0_5 : Int) (a0_6 : Int) (a0_7 : Int) (a0_8 : Int) (a0_9 : Int) (a0_10 : Int) (a0_11 : Int) (a0_12 : Int) (a0_13 : Int) (a0_14 : Int) (a0_15 : Int) (A1 : Option Addr) (c1 : Nat) (l1 : List Int) (r : Int) (w : World) (hr1 : Kd.C (Kd.int .u8) w A1 l1.length l1) (hc1 : l1.length ≤ c1) (h : fuseeref23_Sum.f a0_0 a0_1 a0_2 a0_3 a0_4 a0_5 a0_6 a0_7 a0_8 a0_9 a0_10 a0_11 a0_12 a0_13 a0_14 a0_15 l1 = some r) :
    Calls Try.prog 9 #[.agg #[.int .u8 a0_0, .int .u8 a0_1, .int .u8 a0_2, .int .u8 a0_3, .int .u8 a0_4, .int .u8 a0_5, .int .u8 a0_6, .int .u8 a0_7, .int .u8 a0_8, .int .u8 a0_9, .int .u8 a0_10, .int .u8 a0_11, .int .u8 a0_12, .int .u8 a0_13, .int .u8 a0_14, .int .u8 a0_15], .slice A1 l1.length c1] w fun e w' => e = .returned (.int .u64 r) ∧ Below w.heap.size w w' := by
  unfold fuseeref23_Sum.f at h
  split at h
  · next hL =>
    obtain rfl := Option.some.inj h
    exact refsum_calls a0_0 a0_1 a0_2 a0_3 a0_4 a0_5 a0_6 a0_7 a0_8 a0_9 a0_10 a0_11 a0_12 a0_13 a0_14 a0_15 A1 c1 l1 w hr1 hc1 hL
  · cases h
theorem uncons_ {t : List Int} {n : Nat} (h : n + 1 ≤ t.length) : ∃ x r, t = x :: r ∧ n ≤ r.length := by
  cases t with
  | nil => simp at h
  | cons x r => exact ⟨x, r, rfl, by simp at h; omega⟩
theorem take16 (t : List Int) (h : 16 ≤ t.length) : t.take 16 = [rd t 0, rd t 1, rd t 2, rd t 3, rd t 4, rd t 5, rd t 6, rd t 7, rd t 8, rd t 9, rd t 10, rd t 11, rd t 12, rd t 13, rd t 14, rd t 15] := by
  obtain ⟨x0, t0, rfl, h0⟩ := uncons_ h
  obtain ⟨x1, t1, rfl, h1⟩ := uncons_ h0
  obtain ⟨x2, t2, rfl, h2⟩ := uncons_ h1
  obtain ⟨x3, t3, rfl, h3⟩ := uncons_ h2
  obtain ⟨x4, t4, rfl, h4⟩ := uncons_ h3
  obtain ⟨x5, t5, rfl, h5⟩ := uncons_ h4
  obtain ⟨x6, t6, rfl, h6⟩ := uncons_ h5
  obtain ⟨x7, t7, rfl, h7⟩ := uncons_ h6
  obtain ⟨x8, t8, rfl, h8⟩ := uncons_ h7
  obtain ⟨x9, t9, rfl, h9⟩ := uncons_ h8
  obtain ⟨x10, t10, rfl, h10⟩ := uncons_ h9
  obtain ⟨x11, t11, rfl, h11⟩ := uncons_ h10
  obtain ⟨x12, t12, rfl, h12⟩ := uncons_ h11
  obtain ⟨x13, t13, rfl, h13⟩ := uncons_ h12
  obtain ⟨x14, t14, rfl, h14⟩ := uncons_ h13
  obtain ⟨x15, t15, rfl, h15⟩ := uncons_ h14
  rfl
theorem row_step (t : List Int) (i : Nat) (hi : i < 16) (ht : 16 ≤ t.length) : (((t.take i ++ List.replicate (16 - i) 0).map (Value.int .u8)).toArray.setIfInBounds i (.int .u8 (rd t (i : Int)))) = ((t.take (i + 1) ++ List.replicate (16 - (i + 1)) 0).map (Value.int .u8)).toArray := by
  rw [List.setIfInBounds_toArray]
  congr 1
  rw [← List.map_set]
  congr 1
  have hl : (t.take i).length = i := by rw [List.length_take]; omega
  rw [List.set_append_right _ _ (by omega), hl, Nat.sub_self, show 16 - i = (16 - (i + 1)) + 1 by omega, List.replicate_succ, List.set_cons_zero]
  rw [List.take_add_one, List.append_assoc]
  congr 1
  rw [List.getElem?_eq_getElem (by omega)]
  have : rd t (i : Int) = t[i]'(by omega) := by simp [rd, List.getD, List.getElem?_eq_getElem (show i < t.length by omega)]
  rw [this]; rfl
end Go.Proofs.Ytiljnlhmeolhfaa.MPf
