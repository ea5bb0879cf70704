/-
  PrfWithin in plain numbers.
-/
import Derived.Test.YtiljnlhmeolhfaaK
import Derived.Test.YtiljnlhmeolhfaaMath
import Derived.Test.YtiljnlhmeolhfaaWideM
import Derived.Test.YtiljnlhmeolhfaaMPrfWithinx
namespace Go.Proofs.Ytiljnlhmeolhfaa.MPrfWithin
open Go.RowKit Go.Proofs.YtiljnlhmeolhfaaW.PrintWords Go.Proofs.YtiljnlhmeolhfaaW.PrintMore
set_option linter.unusedVariables false
set_option linter.unusedSimpArgs false

/-- the eight bytes of a number -/
def bytes8 (v : Int) : List Int := [v % 256, v / 256 % 256, v / 65536 % 256, v / 16777216 % 256, v / 4294967296 % 256, v / 1099511627776 % 256, v / 281474976710656 % 256, v / 72057594037927936 % 256]
theorem i64_eq (k : Nat) (hk : 9 ≤ k) (a : Int) : fields_I64.f k [] a = some (bytes8 (IntKind.u64.wrap a)) := by
  obtain ⟨m, rfl⟩ : ∃ m, k = m + 9 := ⟨k - 9, by omega⟩
  unfold fields_I64.f fields_number.f slices_Clone_byte_byte.f
  generalize IntKind.u64.wrap a = v
  simp [fields_number.l0, wrap64, shr, IntKind.bits, bytes8]
/-- a number of a sum -/
def numV (kl kh : List Int) (place lim : Int) : Int :=
  if IntKind.u64.wrap (lim + 1) = 0 then _root_.Go.Proofs.Ytiljnlhmeolhfaa.MPf.sumV kl kh (bytes8 (IntKind.u64.wrap place)) else Int.tmod (_root_.Go.Proofs.Ytiljnlhmeolhfaa.MPf.sumV kl kh (bytes8 (IntKind.u64.wrap place))) (IntKind.u64.wrap (lim + 1))
theorem sum_eq (a0 a1 a2 a3 a4 a5 a6 a7 a8 a9 a10 a11 a12 a13 a14 a15 : Int) (l : List Int) (hl : l.length ≤ 1000) : prf_Sum.f a0 a1 a2 a3 a4 a5 a6 a7 a8 a9 a10 a11 a12 a13 a14 a15 l = some (_root_.Go.Proofs.Ytiljnlhmeolhfaa.MPf.sumV [a0, a1, a2, a3, a4, a5, a6, a7] [a8, a9, a10, a11, a12, a13, a14, a15] l) := by
  unfold prf_Sum.f _root_.Go.Proofs.Ytiljnlhmeolhfaa.MPf.prf_Sum.f
  rw [if_pos (by omega)]
theorem number_eq (k : Nat) (hk : 9 ≤ k) (a0 a1 a2 a3 a4 a5 a6 a7 a8 a9 a10 a11 a12 a13 a14 a15 place lim : Int) : prf_Number.f k a0 a1 a2 a3 a4 a5 a6 a7 a8 a9 a10 a11 a12 a13 a14 a15 place lim = some (numV [a0, a1, a2, a3, a4, a5, a6, a7] [a8, a9, a10, a11, a12, a13, a14, a15] place lim) := by
  unfold prf_Number.f
  rw [i64_eq k hk]
  simp only [Option.bind_some]
  rw [sum_eq _ _ _ _ _ _ _ _ _ _ _ _ _ _ _ _ _ (by simp [bytes8])]
  simp only [Option.bind_some]
  unfold numV
  by_cases h : IntKind.u64.wrap (lim + 1) = 0
  · rw [if_pos h, if_pos h]
  · rw [if_neg h, if_neg h]
theorem endS_range (s : _root_.Go.Proofs.Ytiljnlhmeolhfaa.MPf.St4) : 0 ≤ _root_.Go.Proofs.Ytiljnlhmeolhfaa.MPf.endS s ∧ _root_.Go.Proofs.Ytiljnlhmeolhfaa.MPf.endS s ≤ 18446744073709551615 := by
  unfold _root_.Go.Proofs.Ytiljnlhmeolhfaa.MPf.endS
  exact bounds_u64 (wf_bits .xor .u64 _ _)
theorem sumV_range (kl kh l : List Int) : 0 ≤ _root_.Go.Proofs.Ytiljnlhmeolhfaa.MPf.sumV kl kh l ∧ _root_.Go.Proofs.Ytiljnlhmeolhfaa.MPf.sumV kl kh l ≤ 18446744073709551615 := endS_range _
theorem numV_le (kl kh : List Int) (place lim : Int) (h0 : 0 ≤ lim) (h1 : lim ≤ 18446744073709551615) : numV kl kh place lim ≤ lim := by
  unfold numV
  have hr := sumV_range kl kh (bytes8 (IntKind.u64.wrap place))
  by_cases h : lim = 18446744073709551615
  · subst h
    rw [if_pos (by decide +kernel)]; exact hr.2
  · have e2 : IntKind.u64.wrap (lim + 1) = lim + 1 := U64.wrap (by unfold U64; omega)
    rw [e2, if_neg (by omega), Int.tmod_eq_emod_of_nonneg hr.1]
    have := Int.emod_lt_of_pos (_root_.Go.Proofs.Ytiljnlhmeolhfaa.MPf.sumV kl kh (bytes8 (IntKind.u64.wrap place))) (show 0 < lim + 1 by omega)
    omega
theorem numV_zero (kl kh : List Int) (place : Int) : numV kl kh place 0 = 0 := by
  unfold numV
  have e2 : IntKind.u64.wrap ((0 : Int) + 1) = 1 := by decide +kernel
  rw [e2, if_neg (by omega)]
  exact Int.tmod_one _
theorem numV_all (kl kh : List Int) (place : Int) : numV kl kh place 18446744073709551615 = _root_.Go.Proofs.Ytiljnlhmeolhfaa.MPf.sumV kl kh (bytes8 (IntKind.u64.wrap place)) := by
  unfold numV
  rw [if_pos (by decide +kernel)]
theorem sure_at (k : Nat) (hk : 30 ≤ k) : fuseelaw23_sure.f k = some true :=
  at_rounds (g := fuseelaw23_sure.f) (fun k => fuseelaw23_sure.mono k) hk (by decide +kernel)
theorem rd_app (l : List Int) (x : Int) (j : Nat) (h : j < l.length) : rd (l ++ [x]) (j : Int) = rd l (j : Int) := by
  simp [rd, List.getD, List.getElem?_append_left h]
theorem rd_last (l : List Int) (x : Int) : rd (l ++ [x]) (l.length : Int) = x := by
  simp [rd, List.getD]
theorem loop1 (x l : List Int) (lim a0 a1 a2 a3 a4 a5 a6 a7 a8 a9 a10 a11 a12 a13 a14 a15 : Int) (hm : x.length ≤ maxLen) (hl : l.length ≤ x.length) (h60 : l.length ≤ 60) (hv : ∀ j : Nat, j < l.length → rd l (j : Int) = numV [a0, a1, a2, a3, a4, a5, a6, a7] [a8, a9, a10, a11, a12, a13, a14, a15] (rd x (j : Int)) lim) (d : Nat) : ∀ (k j : Nat), j ≤ l.length → l.length - j = d → d + 40 ≤ k → fuseelaw23_PrfWithin.l1 k x lim l (j : Int) a0 a1 a2 a3 a4 a5 a6 a7 a8 a9 a10 a11 a12 a13 a14 a15 = some true := by
  induction d with
  | zero =>
    intro k j h1 h2 h3
    obtain ⟨k, rfl⟩ : ∃ m, k = m + 1 := ⟨k - 1, by omega⟩
    simp only [fuseelaw23_PrfWithin.l1]
    rw [if_neg (by omega), sure_at k (by omega)]
    rfl
  | succ d ih =>
    intro k j h1 h2 h3
    obtain ⟨k, rfl⟩ : ∃ m, k = m + 1 := ⟨k - 1, by omega⟩
    have hj := ih k (j + 1) (by omega) (by omega) (by omega)
    simp only [fuseelaw23_PrfWithin.l1]
    obtain ⟨n1, e1⟩ : ∃ n, n = numV [a0, a1, a2, a3, a4, a5, a6, a7] [a8, a9, a10, a11, a12, a13, a14, a15] (rd x (j : Int)) lim := ⟨_, rfl⟩
    obtain ⟨n2, e2⟩ : ∃ n, n = numV [a0, a1, a2, a3, a4, a5, a6, a7] [a8, a9, a10, a11, a12, a13, a14, a15] (rd x (j : Int)) 18446744073709551615 := ⟨_, rfl⟩
    have q1 := number_eq k (by omega) a0 a1 a2 a3 a4 a5 a6 a7 a8 a9 a10 a11 a12 a13 a14 a15 (rd x (j : Int)) lim
    have q2 := number_eq k (by omega) a0 a1 a2 a3 a4 a5 a6 a7 a8 a9 a10 a11 a12 a13 a14 a15 (rd x (j : Int)) 18446744073709551615
    have q3 := sum_eq a0 a1 a2 a3 a4 a5 a6 a7 a8 a9 a10 a11 a12 a13 a14 a15 (bytes8 (IntKind.u64.wrap (rd x (j : Int)))) (by simp [bytes8])
    rw [← numV_all, ← e2] at q3
    rw [← e1] at q1
    rw [← e2] at q2
    have hv1 := hv j (by omega)
    rw [← e1] at hv1
    clear e1 e2
    unfold bytes8 at q3
    rw [if_pos (by omega), if_pos (by omega), if_pos (by omega), q1, q2, q3]
    simp only [Option.bind_some]
    rw [if_pos hv1.symm, if_pos trivial, show wrap64 ((j : Int) + 1) = ((j + 1 : Nat) : Int) by unfold wrap64; omega]
    exact hj
theorem loop0 (x : List Int) (lim a0 a1 a2 a3 a4 a5 a6 a7 a8 a9 a10 a11 a12 a13 a14 a15 : Int) (hm : x.length ≤ maxLen) (h0 : 0 ≤ lim) (h1 : lim ≤ 18446744073709551615) (d : Nat) : ∀ (k : Nat) (l : List Int), l.length ≤ x.length → l.length ≤ 60 → 60 - l.length = d → 2 * d + 150 ≤ k → (∀ j : Nat, j < l.length → rd l (j : Int) = numV [a0, a1, a2, a3, a4, a5, a6, a7] [a8, a9, a10, a11, a12, a13, a14, a15] (rd x (j : Int)) lim) → fuseelaw23_PrfWithin.l0 k x lim l (l.length : Int) a0 a1 a2 a3 a4 a5 a6 a7 a8 a9 a10 a11 a12 a13 a14 a15 = some true := by
  have hend : ∀ (k : Nat) (l : List Int), l.length ≤ x.length → l.length ≤ 60 → 150 ≤ k + 2 → (∀ j : Nat, j < l.length → rd l (j : Int) = numV [a0, a1, a2, a3, a4, a5, a6, a7] [a8, a9, a10, a11, a12, a13, a14, a15] (rd x (j : Int)) lim) → fuseelaw23_PrfWithin.j1 (k + 1) x lim l (l.length : Int) false a0 a1 a2 a3 a4 a5 a6 a7 a8 a9 a10 a11 a12 a13 a14 a15 = some true := by
    intro k l e1 e2 e3 e4
    simp only [fuseelaw23_PrfWithin.j1]
    rw [if_neg (by simp)]
    exact loop1 x l lim a0 a1 a2 a3 a4 a5 a6 a7 a8 a9 a10 a11 a12 a13 a14 a15 hm e1 e2 e4 l.length k 0 (by omega) (by omega) (by omega)
  induction d with
  | zero =>
    intro k l e1 e2 e3 e4 e5
    obtain ⟨k, rfl⟩ : ∃ m, k = m + 2 := ⟨k - 2, by omega⟩
    simp only [fuseelaw23_PrfWithin.l0]
    by_cases c : (l.length : Int) < (x.length : Int)
    · rw [if_pos c, decide_eq_false (by omega)]; exact hend k l e1 e2 (by omega) e5
    · rw [if_neg c]; exact hend k l e1 e2 (by omega) e5
  | succ d ih =>
    intro k l e1 e2 e3 e4 e5
    obtain ⟨k, rfl⟩ : ∃ m, k = m + 2 := ⟨k - 2, by omega⟩
    simp only [fuseelaw23_PrfWithin.l0]
    by_cases c : (l.length : Int) < (x.length : Int)
    · rw [if_pos c, decide_eq_true (by omega)]
      simp only [fuseelaw23_PrfWithin.j1]
      obtain ⟨n1, f1⟩ : ∃ n, n = numV [a0, a1, a2, a3, a4, a5, a6, a7] [a8, a9, a10, a11, a12, a13, a14, a15] (rd x (l.length : Int)) lim := ⟨_, rfl⟩
      have q1 := number_eq k (by omega) a0 a1 a2 a3 a4 a5 a6 a7 a8 a9 a10 a11 a12 a13 a14 a15 (rd x (l.length : Int)) lim
      have q2 := number_eq k (by omega) a0 a1 a2 a3 a4 a5 a6 a7 a8 a9 a10 a11 a12 a13 a14 a15 (rd x (l.length : Int)) 0
      have hle := numV_le [a0, a1, a2, a3, a4, a5, a6, a7] [a8, a9, a10, a11, a12, a13, a14, a15] (rd x (l.length : Int)) lim h0 h1
      rw [← f1] at q1 hle
      rw [numV_zero] at q2
      rw [if_pos trivial, if_pos (by omega), if_pos c, q1, q2]
      simp only [Option.bind_some]
      rw [if_neg (by omega), if_pos trivial, if_pos (by omega), show wrap64 ((l.length : Int) + 1) = ((l.length + 1 : Nat) : Int) by unfold wrap64; omega]
      have := ih k (l ++ [n1]) (by simp; omega) (by simp; omega) (by simp; omega) (by omega) (by
        intro j hj
        by_cases hjl : j < l.length
        · rw [rd_app _ _ _ hjl]; exact e5 j hjl
        · have : j = l.length := by simp at hj; omega
          subst this
          rw [rd_last]; exact f1)
      rw [show ((l ++ [n1]).length : Int) = ((l.length + 1 : Nat) : Int) by simp] at this
      exact this
    · rw [if_neg c]; exact hend k l e1 e2 (by omega) e5
theorem done (a0 a1 a2 a3 a4 a5 a6 a7 a8 a9 a10 a11 a12 a13 a14 a15 : Int) (l : List Int) (lim : Int) (g0 : (Lit.int .u8 a0).wf = true) (g1 : (Lit.int .u8 a1).wf = true) (g2 : (Lit.int .u8 a2).wf = true) (g3 : (Lit.int .u8 a3).wf = true) (g4 : (Lit.int .u8 a4).wf = true) (g5 : (Lit.int .u8 a5).wf = true) (g6 : (Lit.int .u8 a6).wf = true) (g7 : (Lit.int .u8 a7).wf = true) (g8 : (Lit.int .u8 a8).wf = true) (g9 : (Lit.int .u8 a9).wf = true) (g10 : (Lit.int .u8 a10).wf = true) (g11 : (Lit.int .u8 a11).wf = true) (g12 : (Lit.int .u8 a12).wf = true) (g13 : (Lit.int .u8 a13).wf = true) (g14 : (Lit.int .u8 a14).wf = true) (g15 : (Lit.int .u8 a15).wf = true) (hm : l.length ≤ maxLen) (hw : ∀ x ∈ l, (Lit.int .i64 x).wf = true) (hl : (Lit.int .u64 lim).wf = true) : ∃ k, fuseelaw23_PrfWithin.f k a0 a1 a2 a3 a4 a5 a6 a7 a8 a9 a10 a11 a12 a13 a14 a15 l lim = some true := by
  have hb := bounds_u64 hl
  refine ⟨400, ?_⟩
  unfold fuseelaw23_PrfWithin.f
  exact loop0 l lim a0 a1 a2 a3 a4 a5 a6 a7 a8 a9 a10 a11 a12 a13 a14 a15 hm hb.1 hb.2 60 400 [] (by simp) (by simp) (by simp) (by omega) (by intro j hj; simp at hj)
end Go.Proofs.Ytiljnlhmeolhfaa.MPrfWithin
