/-
  The reference's sum of bytes is prf's.
-/
import Derived.Test.YtpihgdehgkclmaaDoorRs
namespace Go.Proofs.YtpihgdehgkclmaaDoor.MPf
open Go.RowKit Go.Proofs.YtpihgdehgkclmaaDoorW.PrintWords Go.Proofs.YtpihgdehgkclmaaDoorW.PrintLast Go.Proofs.YtpihgdehgkclmaaDoorW.PrintMore
set_option linter.unusedVariables false
set_option linter.unusedSimpArgs false

def allN (l : List Int) (N : Int) : List Int := l ++ List.replicate (7 - l.length % 8) 0 ++ [N % 256]
theorem allN_length (l : List Int) (N : Int) : (allN l N).length = l.length + (8 - l.length % 8) := by simp [allN]; omega
theorem byte_last (l : List Int) (N : Int) (hl : ∀ c ∈ l, 0 ≤ c ∧ c < 256) : ∀ c ∈ lastB l N, 0 ≤ c ∧ c < 256 := by
  intro c hc
  unfold lastB at hc
  simp only [List.mem_append, List.mem_replicate, List.mem_singleton] at hc
  rcases hc with (h | ⟨_, rfl⟩) | rfl
  · exact hl c h
  · omega
  · omega
theorem absorb_eq : ∀ (n : Nat) (s : St4) (l : List Int) (N : Int), l.length ≤ n → (∀ c ∈ l, 0 ≤ c ∧ c < 256) →
    absorbR ((allN l N).length / 8) s (allN l N) = takeS (absorb n s l).1 (wordV (lastB (absorb n s l).2 N)) := by
  intro n
  induction n with
  | zero =>
    intro s l N hn hl
    obtain rfl : l = [] := List.eq_nil_of_length_eq_zero (by omega)
    rw [absorb_end 0 s [] (by decide), (word_eq (lastB [] N) (lastB_length _ _ (by decide)) (byte_last _ _ hl)).1]
    have e : allN [] N = lastB [] N := rfl
    rw [e, lastB_length _ _ (by decide)]
    show absorbR 1 s (lastB [] N) = _
    simp only [absorbR]
    rw [List.take_of_length_le (by rw [lastB_length _ _ (by decide)]; omega)]
  | succ n ih =>
    intro s l N hn hl
    by_cases h8 : l.length < 8
    · rw [absorb_end _ s l h8, (word_eq (lastB l N) (lastB_length _ _ h8) (byte_last _ _ hl)).1]
      have e : allN l N = lastB l N := by unfold allN lastB; rw [Nat.mod_eq_of_lt h8]
      rw [e, lastB_length _ _ h8]
      show absorbR 1 s (lastB l N) = _
      simp only [absorbR]
      rw [List.take_of_length_le (by rw [lastB_length _ _ h8]; omega)]
    · have h8' : 8 ≤ l.length := by omega
      rw [absorb_step n s l h8']
      have hd : (l.drop 8).length = l.length - 8 := List.length_drop
      have e1 : (allN l N).drop 8 = allN (l.drop 8) N := by
        unfold allN
        rw [List.append_assoc, List.drop_append_of_le_length h8', hd, show (l.length - 8) % 8 = l.length % 8 by omega, List.append_assoc]
      have e2 : (allN l N).take 8 = l.take 8 := by
        unfold allN
        rw [List.append_assoc, List.take_append_of_le_length h8']
      have e3 : (allN l N).length / 8 = (allN (l.drop 8) N).length / 8 + 1 := by
        rw [allN_length, allN_length, hd]; omega
      rw [e3]
      simp only [absorbR]
      rw [e1, e2, (word_eq (l.take 8) (by rw [List.length_take]; omega) (fun c hc => hl c (List.mem_of_mem_take hc))).1]
      exact ih _ (l.drop 8) N (by omega) (fun c hc => hl c (List.mem_of_mem_drop hc))
theorem refSum_eq (kl kh b : List Int) (h1 : kl.length = 8) (h2 : kh.length = 8) (b1 : ∀ c ∈ kl, 0 ≤ c ∧ c < 256) (b2 : ∀ c ∈ kh, 0 ≤ c ∧ c < 256) (hb : ∀ c ∈ b, 0 ≤ c ∧ c < 256) : refSumV kl kh b = sumV kl kh b := by
  unfold refSumV sumV
  simp only
  rw [← (word_eq kl h1 b1).1, ← (word_eq kh h2 b2).1]
  exact congrArg endS (absorb_eq b.length _ b (b.length : Int) (Nat.le_refl _) hb)
def fuseeref23_Sum.f (a0_0 : Int) (a0_1 : Int) (a0_2 : Int) (a0_3 : Int) (a0_4 : Int) (a0_5 : Int) (a0_6 : Int) (a0_7 : Int) (a0_8 : Int) (a0_9 : Int) (a0_10 : Int) (a0_11 : Int) (a0_12 : Int) (a0_13 : Int) (a0_14 : Int) (a0_15 : Int) (l1 : List Int) : Option Int := if l1.length ≤ 140737488351232 then some (refSumV [a0_0, a0_1, a0_2, a0_3, a0_4, a0_5, a0_6, a0_7] [a0_8, a0_9, a0_10, a0_11, a0_12, a0_13, a0_14, a0_15] l1) else none
theorem fuseeref23_Sum.calls (a0_0 : Int) (a0_1 : Int) (a0_2 : Int) (a0_3 : Int) (a0_4 : Int) (a0_5 : Int) (a0_6 : Int) (a0_7 : Int) (a0_8 : Int) (a0_9 : Int) (a0_10 : Int) (a0_11 : Int) (a0_12 : Int) (a0_13 : Int) (a0_14 : Int) (a0_15 : Int) (A1 : Option Addr) (c1 : Nat) (l1 : List Int) (r : Int) (w : World) (hr1 : Kd.C (Kd.int .u8) w A1 l1.length l1) (hc1 : l1.length ≤ c1) (h : fuseeref23_Sum.f a0_0 a0_1 a0_2 a0_3 a0_4 a0_5 a0_6 a0_7 a0_8 a0_9 a0_10 a0_11 a0_12 a0_13 a0_14 a0_15 l1 = some r) :
    Calls Tryd.prog 105 #[.agg #[.int .u8 a0_0, .int .u8 a0_1, .int .u8 a0_2, .int .u8 a0_3, .int .u8 a0_4, .int .u8 a0_5, .int .u8 a0_6, .int .u8 a0_7, .int .u8 a0_8, .int .u8 a0_9, .int .u8 a0_10, .int .u8 a0_11, .int .u8 a0_12, .int .u8 a0_13, .int .u8 a0_14, .int .u8 a0_15], .slice A1 l1.length c1] w fun e w' => e = .returned (.int .u64 r) ∧ Below w.heap.size w w' := by
  unfold fuseeref23_Sum.f at h
  split at h
  · next hL =>
    obtain rfl := Option.some.inj h
    exact refsum_calls a0_0 a0_1 a0_2 a0_3 a0_4 a0_5 a0_6 a0_7 a0_8 a0_9 a0_10 a0_11 a0_12 a0_13 a0_14 a0_15 A1 c1 l1 w hr1 hc1 hL
  · cases h
end Go.Proofs.YtpihgdehgkclmaaDoor.MPf
