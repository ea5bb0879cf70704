/-
  FuzzHolds in plain numbers.
-/
import Derived.Test.YtpihgdehgkclmaaDoorK
import Derived.Test.YtpihgdehgkclmaaDoorMath
import Derived.Test.YtpihgdehgkclmaaDoorWideM
import Derived.Test.YtpihgdehgkclmaaDoorMFuzzHoldsx
namespace Go.Proofs.YtpihgdehgkclmaaDoor.MFuzzHolds
open Go.RowKit Go.Proofs.YtpihgdehgkclmaaDoorW.PrintWords Go.Proofs.YtpihgdehgkclmaaDoorW.PrintMore
set_option linter.unusedVariables false
set_option linter.unusedSimpArgs false

/-- the printed error is the error as a value -/
theorem errW_errV (o : Option Int) : errW o = errV o := by cases o <;> rfl
theorem pSub (a b : Int) (ha : R64 a) (hb : R64 b) : num_Sub.f a b = some (if R64 (a - b) then (a - b, none) else (0, some 2)) := by
  unfold num_Sub.f
  by_cases h : R64 (a - b)
  · rw [if_pos h, h.wrap, if_neg]
    unfold R64 at *
    by_cases h0 : b < 0 <;> simp [h0] <;> omega
  · rw [if_neg h, if_pos]
    unfold R64 at *
    by_cases h0 : b < 0
    · have : ¬ wrap64 (a - b) > a := by unfold wrap64; omega
      simp [h0]; omega
    · have : wrap64 (a - b) > a := by unfold wrap64; omega
      simp [h0]; omega
theorem pDiv (a b : Int) (ha : R64 a) (hb : R64 b) (h : 1 ≤ b) : num_Div.f a b = some (a / b, a % b, none) := by
  unfold num_Div.f
  have hr0 := Int.emod_nonneg a (show b ≠ 0 by omega)
  have hr1 := Int.emod_lt_of_pos a (show 0 < b by omega)
  have hq := div_bounds ha h
  have ht := (tdiv_range ha h).wrap
  rw [if_neg (by omega), if_neg (by omega), ht]
  rcases Int.lt_or_le a 0 with h0 | h0
  · have e1 := tdiv_neg h0 h
    have e2 := tmod_neg h0 h
    by_cases hz : a % b = 0
    · rw [if_pos hz] at e1 e2
      rw [if_neg (by omega), e1, e2]; simp
    · rw [if_neg hz] at e1 e2
      rw [if_pos (by omega), e1, e2, R64.wrap (by simpa using hq.1), R64.wrap (by unfold R64 at *; omega)]; simp
  · rw [Int.tmod_eq_emod_of_nonneg h0, tdiv_of_nonneg h0, if_neg (by omega)]
theorem pDivBad (a b : Int) (h : b < 1) : num_Div.f a b = some (0, 0, some 1) := by unfold num_Div.f; rw [if_pos h]

theorem num_loop (d : Nat) : ∀ (k : Nat) (x : Int) (l : List Int) (i : Nat), i ≤ 8 → 8 - i = d → d < k → l.length + d ≤ 1000 → ∃ r, fields_number.l0 k x l 8 i = some r ∧ r.length = l.length + d := by
  induction d with
  | zero =>
    intro k x l i h1 h2 h3 h4
    obtain ⟨k, rfl⟩ : ∃ m, k = m + 1 := ⟨k - 1, by omega⟩
    exact ⟨l, by simp only [fields_number.l0]; rw [if_neg (by omega)], by omega⟩
  | succ d ih =>
    intro k x l i h1 h2 h3 h4
    obtain ⟨k, rfl⟩ : ∃ m, k = m + 1 := ⟨k - 1, by omega⟩
    obtain ⟨r, hr, hl⟩ := ih k x (l ++ [(shr .u64 x (wrap64 (8 * (i : Int)))) % 256]) (i + 1) (by omega) (by omega) (by omega) (by simp; omega)
    refine ⟨r, ?_, by simp at hl; omega⟩
    simp only [fields_number.l0]
    rw [if_pos (by omega), if_pos (by unfold wrap64; omega), if_pos (by omega), show wrap64 ((i : Int) + 1) = ((i + 1 : Nat) : Int) by unfold wrap64; omega]
    exact hr
theorem i64_some (k : Nat) (hk : 9 ≤ k) (a : Int) : ∃ l, fields_I64.f k [] a = some l ∧ l.length = 8 := by
  obtain ⟨r, hr, hl⟩ := num_loop 8 k (IntKind.u64.wrap a) [] 0 (by omega) (by omega) (by omega) (by simp)
  refine ⟨r, ?_, by simpa using hl⟩
  unfold fields_I64.f fields_number.f slices_Clone_byte_byte.f
  simp only [Option.bind_some, List.length_nil, Nat.add_zero, List.append_nil]
  rw [if_pos (by omega)]
  simp only [Option.bind_some]
  rw [show fields_number.l0 k (IntKind.u64.wrap a) [] 8 0 = some r from hr]
  rfl
theorem endS_nonneg (s : _root_.Go.Proofs.YtpihgdehgkclmaaDoor.MPf.St4) : 0 ≤ _root_.Go.Proofs.YtpihgdehgkclmaaDoor.MPf.endS s := by
  unfold _root_.Go.Proofs.YtpihgdehgkclmaaDoor.MPf.endS
  exact (bounds_u64 (wf_bits .xor .u64 _ _)).1

theorem number_some (k : Nat) (hk : 9 ≤ k) (a0 a1 a2 a3 a4 a5 a6 a7 a8 a9 a10 a11 a12 a13 a14 a15 : Int) (cell w : Int) (h0 : 0 ≤ w) (h1 : w ≤ 1099511627776) : ∃ n, prf_Number.f k a0 a1 a2 a3 a4 a5 a6 a7 a8 a9 a10 a11 a12 a13 a14 a15 cell (IntKind.u64.wrap w) = some n ∧ 0 ≤ n ∧ n ≤ w := by
  obtain ⟨l, hl, hll⟩ := i64_some k hk cell
  have hs := endS_nonneg
  unfold prf_Number.f
  rw [hl]
  simp only [Option.bind_some]
  unfold prf_Sum.f _root_.Go.Proofs.YtpihgdehgkclmaaDoor.MPf.prf_Sum.f
  rw [if_pos (by omega)]
  simp only [Option.bind_some]
  have e1 : IntKind.u64.wrap w = w := U64.wrap (by unfold U64; omega)
  have e2 : IntKind.u64.wrap (w + 1) = w + 1 := U64.wrap (by unfold U64; omega)
  rw [e1, e2, if_neg (by omega)]
  unfold _root_.Go.Proofs.YtpihgdehgkclmaaDoor.MPf.sumV
  have hn := hs (_root_.Go.Proofs.YtpihgdehgkclmaaDoor.MPf.takeS (_root_.Go.Proofs.YtpihgdehgkclmaaDoor.MPf.absorb l.length (_root_.Go.Proofs.YtpihgdehgkclmaaDoor.MPf.start4 (_root_.Go.Proofs.YtpihgdehgkclmaaDoor.MPf.wordV [a0, a1, a2, a3, a4, a5, a6, a7]) (_root_.Go.Proofs.YtpihgdehgkclmaaDoor.MPf.wordV [a8, a9, a10, a11, a12, a13, a14, a15])) l).1 (_root_.Go.Proofs.YtpihgdehgkclmaaDoor.MPf.wordV (_root_.Go.Proofs.YtpihgdehgkclmaaDoor.MPf.lastB (_root_.Go.Proofs.YtpihgdehgkclmaaDoor.MPf.absorb l.length (_root_.Go.Proofs.YtpihgdehgkclmaaDoor.MPf.start4 (_root_.Go.Proofs.YtpihgdehgkclmaaDoor.MPf.wordV [a0, a1, a2, a3, a4, a5, a6, a7]) (_root_.Go.Proofs.YtpihgdehgkclmaaDoor.MPf.wordV [a8, a9, a10, a11, a12, a13, a14, a15])) l).2 l.length)))
  refine ⟨_, rfl, ?_, ?_⟩
  · rw [Int.tmod_eq_emod_of_nonneg hn]; exact Int.emod_nonneg _ (by omega)
  · rw [Int.tmod_eq_emod_of_nonneg hn]; have := Int.emod_lt_of_pos (_root_.Go.Proofs.YtpihgdehgkclmaaDoor.MPf.endS (_root_.Go.Proofs.YtpihgdehgkclmaaDoor.MPf.takeS (_root_.Go.Proofs.YtpihgdehgkclmaaDoor.MPf.absorb l.length (_root_.Go.Proofs.YtpihgdehgkclmaaDoor.MPf.start4 (_root_.Go.Proofs.YtpihgdehgkclmaaDoor.MPf.wordV [a0, a1, a2, a3, a4, a5, a6, a7]) (_root_.Go.Proofs.YtpihgdehgkclmaaDoor.MPf.wordV [a8, a9, a10, a11, a12, a13, a14, a15])) l).1 (_root_.Go.Proofs.YtpihgdehgkclmaaDoor.MPf.wordV (_root_.Go.Proofs.YtpihgdehgkclmaaDoor.MPf.lastB (_root_.Go.Proofs.YtpihgdehgkclmaaDoor.MPf.absorb l.length (_root_.Go.Proofs.YtpihgdehgkclmaaDoor.MPf.start4 (_root_.Go.Proofs.YtpihgdehgkclmaaDoor.MPf.wordV [a0, a1, a2, a3, a4, a5, a6, a7]) (_root_.Go.Proofs.YtpihgdehgkclmaaDoor.MPf.wordV [a8, a9, a10, a11, a12, a13, a14, a15])) l).2 l.length)))) (show 0 < w + 1 by omega); omega
theorem check_eq (w c : Int) : fuzz_Check.f w c = some (if 0 ≤ w ∧ w ≤ 1099511627776 ∧ 1 ≤ c ∧ c ≤ 1125899906842624 then none else some 1) := by
  unfold fuzz_Check.f
  by_cases h : 0 ≤ w ∧ w ≤ 1099511627776 ∧ 1 ≤ c ∧ c ≤ 1125899906842624
  · rw [if_pos h, if_neg (by omega), if_neg (by omega), if_neg (by omega), if_neg (by omega)]
  · rw [if_neg h]; repeat' split
    all_goals first | rfl | (exfalso; omega)
theorem by_some (k : Nat) (hk : 9 ≤ k) (w c : Int) (a0 a1 a2 a3 a4 a5 a6 a7 a8 a9 a10 a11 a12 a13 a14 a15 : Int) (hf : 0 ≤ w ∧ w ≤ 1099511627776 ∧ 1 ≤ c ∧ c ≤ 1125899906842624) (t : Int) (ht : R64 t) : ∃ n, fuzz_By.f k w c a0 a1 a2 a3 a4 a5 a6 a7 a8 a9 a10 a11 a12 a13 a14 a15 t = some (n, none) ∧ 0 ≤ n ∧ n ≤ w ∧ prf_Number.f k a0 a1 a2 a3 a4 a5 a6 a7 a8 a9 a10 a11 a12 a13 a14 a15 (t / c) (IntKind.u64.wrap w) = some n := by
  obtain ⟨n, hn, h0, h1⟩ := number_some k hk a0 a1 a2 a3 a4 a5 a6 a7 a8 a9 a10 a11 a12 a13 a14 a15 (t / c) w hf.1 hf.2.1
  refine ⟨n, ?_, h0, h1, hn⟩
  unfold fuzz_By.f
  rw [check_eq, if_pos hf]
  simp only [Option.bind_some, Option.isNone_none, if_true]
  rw [pDiv t c ht (by unfold R64; omega) (by omega)]
  simp only [Option.bind_some, Option.isNone_none, if_true]
  rw [hn]
  simp only [Option.bind_some]
  rw [R64.wrap (by unfold R64; omega)]
theorem at_some (k : Nat) (hk : 9 ≤ k) (w c : Int) (a0 a1 a2 a3 a4 a5 a6 a7 a8 a9 a10 a11 a12 a13 a14 a15 : Int) (hf : 0 ≤ w ∧ w ≤ 1099511627776 ∧ 1 ≤ c ∧ c ≤ 1125899906842624) (t : Int) (h0 : -4611686018427387904 ≤ t) (h1 : t ≤ 4611686018427387904) : ∃ n, fuzz_At.f k w c a0 a1 a2 a3 a4 a5 a6 a7 a8 a9 a10 a11 a12 a13 a14 a15 t = some (t - n, none) ∧ fuzz_By.f k w c a0 a1 a2 a3 a4 a5 a6 a7 a8 a9 a10 a11 a12 a13 a14 a15 t = some (n, none) ∧ 0 ≤ n ∧ n ≤ w ∧ prf_Number.f k a0 a1 a2 a3 a4 a5 a6 a7 a8 a9 a10 a11 a12 a13 a14 a15 (t / c) (IntKind.u64.wrap w) = some n := by
  obtain ⟨n, hn, h2, h3, h4⟩ := by_some k hk w c a0 a1 a2 a3 a4 a5 a6 a7 a8 a9 a10 a11 a12 a13 a14 a15 hf t (by unfold R64; omega)
  refine ⟨n, ?_, hn, h2, h3, h4⟩
  unfold fuzz_At.f
  rw [hn]
  simp only [Option.bind_some, Option.isNone_none, if_true]
  rw [pSub t n (by unfold R64; omega) (by unfold R64; omega), if_pos (by unfold R64; omega)]
  rfl
theorem sure_at (k : Nat) (hk : 20 ≤ k) : fuseelaw25_sure.f k = some true :=
  at_rounds (g := fuseelaw25_sure.f) (fun k => fuseelaw25_sure.mono k) hk (by decide +kernel)
theorem holds (w c : Int) (a0 a1 a2 a3 a4 a5 a6 a7 a8 a9 a10 a11 a12 a13 a14 a15 : Int) (t u : Int) (hw : R64 w) (hc : R64 c) (ht : R64 t) (hu : R64 u) : fuseelaw25_FuzzHolds.f 30 w c a0 a1 a2 a3 a4 a5 a6 a7 a8 a9 a10 a11 a12 a13 a14 a15 t u = some true := by
  have hs : ∀ (k : Nat), 20 ≤ k → ((fuseelaw25_sure.f k).bind fun t154 => (some t154)) = some true := fun k hk => by rw [sure_at k hk]; rfl
  have hj : ∀ (a b : Int), fuseelaw25_FuzzHolds.j0 30 t u true a b a0 a1 a2 a3 a4 a5 a6 a7 a8 a9 a10 a11 a12 a13 a14 a15 a b = some true := by
    intro a b
    simp only [fuseelaw25_FuzzHolds.j0, if_true]
    exact hs _ (by omega)
  unfold fuseelaw25_FuzzHolds.f
  rw [check_eq]
  simp only [Option.bind_some]
  by_cases hf : 0 ≤ w ∧ w ≤ 1099511627776 ∧ 1 ≤ c ∧ c ≤ 1125899906842624
  · rw [if_pos hf]
    simp only [Option.isNone_none, if_true]
    by_cases c1 : t < -4611686018427387904
    · rw [if_pos c1]; exact hj _ _
    rw [if_neg c1]
    by_cases c2 : t > 4611686018427387904
    · rw [if_pos c2]; exact hj _ _
    rw [if_neg c2]
    by_cases c3 : u < -4611686018427387904
    · rw [if_pos c3]; exact hj _ _
    rw [if_neg c3]
    by_cases c4 : u > 4611686018427387904
    · rw [decide_eq_true c4]; exact hj _ _
    rw [decide_eq_false c4]
    obtain ⟨n, p1, p2, p3, p4, p5⟩ := at_some 29 (by omega) w c a0 a1 a2 a3 a4 a5 a6 a7 a8 a9 a10 a11 a12 a13 a14 a15 hf t (by omega) (by omega)
    obtain ⟨m, b1, b2, b3, b4, b5⟩ := at_some 29 (by omega) w c a0 a1 a2 a3 a4 a5 a6 a7 a8 a9 a10 a11 a12 a13 a14 a15 hf u (by omega) (by omega)
    simp only [fuseelaw25_FuzzHolds.j0]
    rw [if_neg (by simp), p1, b1, p2]
    simp only [Option.bind_some, Option.isNone_none, if_true]
    have w1 : wrap64 (t - (t - n)) = n := by unfold wrap64; omega
    have w2 : wrap64 (u - (u - m)) = m := by unfold wrap64; omega
    rw [if_neg (by omega), w1, if_neg (by omega), if_pos rfl, if_neg (by omega), w2, decide_eq_false (by omega)]
    simp only [fuseelaw25_FuzzHolds.j1]
    rw [if_neg (by simp), if_neg (by omega)]
    by_cases d1 : t ≥ 0
    · rw [if_pos d1]
      by_cases d2 : u ≥ 0
      · rw [if_pos d2]
        have q1 := (div_bounds (a := t) (b := c) ht (by omega)).1
        have q2 := (div_bounds (a := u) (b := c) hu (by omega)).1
        rw [tdiv_of_nonneg d1, tdiv_of_nonneg d2, R64.wrap q1, R64.wrap q2]
        by_cases d3 : t / c = u / c
        · rw [if_pos d3]
          rw [d3, b5] at p5
          obtain rfl := Option.some.inj p5
          rw [if_pos (by unfold wrap64; omega)]
          exact hs _ (by omega)
        · rw [if_neg d3]; exact hs _ (by omega)
      · rw [if_neg d2]; exact hs _ (by omega)
    · rw [if_neg d1]; exact hs _ (by omega)
  · rw [if_neg hf]
    simp only [Option.isNone_some, Bool.false_eq_true, if_false]
    exact hj _ _
theorem done (w c : Int) (a0 a1 a2 a3 a4 a5 a6 a7 a8 a9 a10 a11 a12 a13 a14 a15 : Int) (t u : Int) (hw : (Lit.int .i64 w).wf = true) (hc : (Lit.int .i64 c).wf = true) (h0 : (Lit.int .u8 a0).wf = true) (h1 : (Lit.int .u8 a1).wf = true) (h2 : (Lit.int .u8 a2).wf = true) (h3 : (Lit.int .u8 a3).wf = true) (h4 : (Lit.int .u8 a4).wf = true) (h5 : (Lit.int .u8 a5).wf = true) (h6 : (Lit.int .u8 a6).wf = true) (h7 : (Lit.int .u8 a7).wf = true) (h8 : (Lit.int .u8 a8).wf = true) (h9 : (Lit.int .u8 a9).wf = true) (h10 : (Lit.int .u8 a10).wf = true) (h11 : (Lit.int .u8 a11).wf = true) (h12 : (Lit.int .u8 a12).wf = true) (h13 : (Lit.int .u8 a13).wf = true) (h14 : (Lit.int .u8 a14).wf = true) (h15 : (Lit.int .u8 a15).wf = true) (ht : (Lit.int .i64 t).wf = true) (hu : (Lit.int .i64 u).wf = true) : ∃ k, fuseelaw25_FuzzHolds.f k w c a0 a1 a2 a3 a4 a5 a6 a7 a8 a9 a10 a11 a12 a13 a14 a15 t u = some true :=
  ⟨30, holds w c a0 a1 a2 a3 a4 a5 a6 a7 a8 a9 a10 a11 a12 a13 a14 a15 t u (R64.of_wf hw) (R64.of_wf hc) (R64.of_wf ht) (R64.of_wf hu)⟩
end Go.Proofs.YtpihgdehgkclmaaDoor.MFuzzHolds
