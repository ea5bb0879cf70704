/-
  HostHolds in plain numbers: whatever is told of the true time, a host is never off by more than it says.
-/
import Derived.Test.YtcpbfckmngbgdaaDoorHoT
import Derived.Test.YtcpbfckmngbgdaaDoorMHostHoldsx
namespace Go.Proofs.YtcpbfckmngbgdaaDoor.MHostHolds
open Go.RowKit Go.Proofs.YtcpbfckmngbgdaaDoorW.PrintWords Go.Proofs.YtcpbfckmngbgdaaDoorW.PrintMore Go.Proofs.YtcpbfckmngbgdaaDoor.MHo Go.Proofs.YtcpbfckmngbgdaaDoor.MHs
set_option linter.unusedVariables false
set_option linter.unusedSimpArgs false

/-- the factor is exact -/
theorem adj_one (fr : Int) (h : -32767 ≤ fr ∧ fr ≤ 32767) : adjR 2147483648 ((31 : Nat) : Int) fr = (2147483648 + 2 * fr, ((31 : Nat) : Int), none) := by
  unfold adjR
  have e : (2147483648 : Int) * (1073741824 + fr) / 1073741824 = 2147483648 + 2 * fr := by omega
  rw [e, if_pos (by omega)]
theorem off_one (rho err fr g : Int) (hg : 0 ≤ g ∧ g ≤ 1099511627776) (hr : rho = 100) (he : 0 ≤ err ∧ err ≤ 131072) (hf : -32767 ≤ fr ∧ fr ≤ 32767) :
    offR 2147483648 31 rho err fr g = (err + cd ((g + 1) * (100 + absI fr)) 1073741824 + (g / 2147483648 + 4), none) ∧ 0 ≤ cd ((g + 1) * (100 + absI fr)) 1073741824 ∧ cd ((g + 1) * (100 + absI fr)) 1073741824 ≤ 68719476736 := by
  subst hr
  have e1 : g * 2147483648 / 2 ^ 31 = g := by rw [show (2 : Int) ^ 31 = 2147483648 from rfl]; omega
  have ha : 0 ≤ absI fr ∧ absI fr ≤ 32767 := by unfold absI; split <;> omega
  have p0 : 0 ≤ (g + 1) * (100 + absI fr) := Int.mul_nonneg (by omega) (by omega)
  have p1 : (g + 1) * (100 + absI fr) ≤ 1099511627777 * 32867 := Int.mul_le_mul (by omega) (by omega) (by omega) (by omega)
  have c0 : 0 ≤ cd ((g + 1) * (100 + absI fr)) 1073741824 ∧ cd ((g + 1) * (100 + absI fr)) 1073741824 ≤ 68719476736 := by unfold cd; omega
  refine ⟨?_, c0⟩
  unfold offR
  rw [e1, if_pos (by unfold R64; omega), sat_of (a := g + 1) (by unfold R64; omega), show (2 : Int) ^ 31 = 2147483648 from rfl, sat_of (a := err + cd ((g + 1) * (100 + absI fr)) 1073741824) (by unfold R64; omega), sat_of (by unfold R64; omega)]
/-- what it reckons, and how near that is to the true time -/
theorem rec_one (base tai err fr c at_ D : Int) (hb : base ≤ c ∧ c - base ≤ 1099511627776) (ht : -4000000000000000000 ≤ tai ∧ tai ≤ 4000000000000000000) (he : 0 ≤ err ∧ err ≤ 131072) (hf : -32767 ≤ fr ∧ fr ≤ 32767)
    (hn : -err ≤ tai - at_ ∧ tai - at_ ≤ err) (hD : -((c - base) * 100 / 1073741824) ≤ D ∧ D ≤ (c - base) * 100 / 1073741824) :
    ∃ t o, recR 2147483648 31 100 base tai err fr c = (t, o, none) ∧ 0 ≤ o ∧ o ≤ 137438953472 ∧ t - (at_ + (c - base) + D) ≤ o ∧ (at_ + (c - base) + D) - t ≤ o ∧ -4500000000000000000 ≤ t ∧ t ≤ 4500000000000000000 := by
  obtain ⟨g, hg⟩ : ∃ g, g = c - base := ⟨_, rfl⟩
  rw [← hg] at hb hD ⊢
  have hg0 : 0 ≤ g := by omega
  obtain ⟨ho, c0, c1⟩ := off_one 100 err fr g ⟨hg0, hb.2⟩ rfl he hf
  obtain ⟨u, hu⟩ : ∃ u, u = g * fr := ⟨_, rfl⟩
  have hp : g * (2147483648 + 2 * fr) = 2147483648 * g + 2 * u := by rw [hu, Int.mul_add, Int.mul_comm g 2147483648, Int.mul_left_comm]
  have hu1 : -(g * absI fr) ≤ u ∧ u ≤ g * absI fr := by
    rw [hu]; unfold absI
    have : 0 ≤ absI fr := by unfold absI; split <;> omega
    split
    · rename_i h
      rw [Int.mul_neg]
      have : g * fr ≤ 0 := Int.mul_nonpos_of_nonneg_of_nonpos hg0 (by omega)
      omega
    · have : 0 ≤ g * fr := Int.mul_nonneg hg0 (by omega)
      omega
  have ha : 0 ≤ absI fr ∧ absI fr ≤ 32767 := by unfold absI; split <;> omega
  have hv : (g + 1) * (100 + absI fr) = 100 * g + g * absI fr + 100 + absI fr := by rw [Int.add_mul, Int.mul_add, Int.mul_comm g 100]; omega
  have hw0 : 0 ≤ g * absI fr := Int.mul_nonneg hg0 ha.1
  have hw1 : g * absI fr ≤ 1099511627776 * 32767 := Int.mul_le_mul (by omega) ha.2 ha.1 (by omega)
  obtain ⟨v, hvv⟩ : ∃ v, v = g * absI fr := ⟨_, rfl⟩
  rw [← hvv] at hu1 hv hw0 hw1
  rw [hv] at ho c0 c1
  have hrec : recR 2147483648 31 100 base tai err fr c = (tai + (2147483648 * g + 2 * u) / 2147483648, err + cd (100 * g + v + 100 + absI fr) 1073741824 + (g / 2147483648 + 4), none) := by
    unfold recR
    rw [if_neg (by omega), if_neg (by omega), ← hg]
    unfold recG
    rw [adj_one fr hf, if_pos rfl, ho]
    dsimp only
    rw [hp, show (2 : Int) ^ 31 = 2147483648 from rfl, if_pos (show R64 ((2147483648 * g + 2 * u) / 2147483648) ∧ -4611686018427387904 < tai + (2147483648 * g + 2 * u) / 2147483648 ∧ tai + (2147483648 * g + 2 * u) / 2147483648 < 4611686018427387904 by unfold R64; omega), if_pos rfl]
  refine ⟨_, _, hrec, ?_, ?_, ?_, ?_, ?_, ?_⟩
  · omega
  · omega
  · unfold cd; omega
  · unfold cd; omega
  · omega
  · omega
/-- what holds between ticks -/
structure Inv (lim cnt since at_ : Int) (sy : Bool) (base tai err fr sm : Int) : Prop where
  st : okState lim base tai err fr sm
  s0 : 0 ≤ since
  s1 : since ≤ cnt
  near : sy = true → base + since = cnt ∧ -err ≤ tai - at_ ∧ tai - at_ ≤ err ∧ err ≤ 131072
theorem sure_at (k : Nat) (hk : 40 ≤ k) : _root_.Go.Proofs.YtcpbfckmngbgdaaDoor.MHs.fuseelaw18_sure.f k = some true := by
  have h0 : _root_.Go.Proofs.YtcpbfckmngbgdaaDoor.MHs.fuseelaw18_sure.f 40 = some true := by decide +kernel
  have : ∀ d, _root_.Go.Proofs.YtcpbfckmngbgdaaDoor.MHs.fuseelaw18_sure.f (40 + d) = some true := by
    intro d
    induction d with
    | zero => exact h0
    | succ d ih => exact _root_.Go.Proofs.YtcpbfckmngbgdaaDoor.MHs.fuseelaw18_sure.mono (40 + d) _ ih
  have := this (k - 40)
  rwa [show 40 + (k - 40) = k by omega] at this
theorem j2_ok (p i lim : Int) (hR : okRule 2147483648 ((31 : Nat) : Int) 100 p i lim 1099511627776) (hl : lim ≤ 32767) (l : List S151) (k : Nat) (hk : 30 ≤ k) (cnt since at_ x N : Int) (sy : Bool) (base tai err fr sm : Int)
    (hI : Inv lim cnt since at_ sy base tai err fr sm) (hc : cnt ≤ 1099511627776) (ha : -3000000000000000000 ≤ at_ ∧ at_ ≤ 3000000000000000000)
    (hN : ∃ D, N = at_ + since + D ∧ -(since * 100 / 1073741824) ≤ D ∧ D ≤ since * 100 / 1073741824)
    (hx : ∀ q, k ≤ q → fuseelaw18_HostHolds.l0 q l cnt since at_ (wrap64 (x + 1)) 2147483648 31 100 p i lim 1099511627776 sy base tai err fr sm = some true) :
    fuseelaw18_HostHolds.j2 (k + 2) l cnt since at_ x N 2147483648 31 100 p i lim 1099511627776 sy base tai err fr sm = some true := by
  have hgl := hR.2.2.1.2.2.2.2
  have hfr := hI.st.2.2.2.1
  simp only [fuseelaw18_HostHolds.j2]
  have hnow := now_eq (k + 1) (by omega) 2147483648 100 p i lim 1099511627776 31 sy base tai err fr sm cnt (by omega) hR hI.st (by have := hI.s0; have := hI.s1; unfold R64; omega)
  rw [show (31 : Int) = ((31 : Nat) : Int) from rfl, hnow, Option.bind_some]
  unfold nowR
  cases sy with
  | false =>
    simp only [Bool.false_eq_true, if_false, Option.isNone_some, Option.getD_some]
    simp only [fuseelaw18_num.f, numE, Option.bind_some, if_true, fuseelaw18_HostHolds.j3, Bool.false_eq_true, if_false]
    exact hx k (Nat.le_refl _)
  | true =>
    obtain ⟨hb, n1, n2, n3⟩ := hI.near rfl
    obtain ⟨D, hND, hD⟩ := hN
    have hs : cnt - base = since := by omega
    obtain ⟨t, o, hr, o0, o1, d1, d2, t0, t1⟩ := rec_one base tai err fr cnt at_ D (by have := hI.s0; have := hI.s1; omega) (by omega) ⟨hI.st.2.2.1.1, n3⟩ (by omega) ⟨n1, n2⟩ (by rw [hs]; exact hD)
    rw [hs, ← hND] at d1 d2
    have hw1 : wrap64 (t - N) = t - N := by unfold wrap64; omega
    have hw2 : wrap64 (N - t) = N - t := by unfold wrap64; omega
    rw [if_pos rfl, hr]
    simp only [if_true]
    rw [if_neg (show ¬ o > 1099511627776 by omega)]
    simp only [Option.isNone_none, if_true]
    rw [hw1, if_neg (by omega), hw2, if_neg (by omega)]
    exact hx (k + 1) (by omega)
def okTick (T : S151) : Prop := (0 ≤ T.f0 ∧ T.f0 ≤ 4294967295) ∧ (-32768 ≤ T.f1 ∧ T.f1 ≤ 32767) ∧ (0 ≤ T.f3 ∧ T.f3 ≤ 65535) ∧ (0 ≤ T.f4 ∧ T.f4 ≤ 65535)
/-- what the drift may be -/
theorem drift_in (g f : Int) (hg : 0 ≤ g ∧ g ≤ 1099511627776) (hf : -32768 ≤ f ∧ f ≤ 32767) :
    ∃ mo D, Int.tdiv (g * 100) 1073741824 = mo ∧ Int.tdiv (mo * f) 32768 = D ∧ 0 ≤ mo ∧ mo ≤ 102400 ∧ mo = g * 100 / 1073741824 ∧ -mo ≤ D ∧ D ≤ mo ∧ -(102400 * 32768) ≤ mo * f ∧ mo * f ≤ 102400 * 32768 := by
  have e1 : Int.tdiv (g * 100) 1073741824 = g * 100 / 1073741824 := Int.tdiv_eq_ediv_of_nonneg (by omega)
  refine ⟨g * 100 / 1073741824, _, e1, rfl, by omega, by omega, rfl, ?_⟩
  obtain ⟨mo, hmo⟩ : ∃ mo, mo = g * 100 / 1073741824 := ⟨_, rfl⟩
  rw [← hmo]
  have m0 : 0 ≤ mo ∧ mo ≤ 102400 := by omega
  have h1 : mo * f ≤ mo * 32768 := Int.mul_le_mul_of_nonneg_left (by omega) m0.1
  have h2 : mo * -32768 ≤ mo * f := Int.mul_le_mul_of_nonneg_left (by omega) m0.1
  obtain ⟨w, hw⟩ : ∃ w, w = mo * f := ⟨_, rfl⟩
  rw [← hw] at h1 h2 ⊢
  refine ⟨?_, ?_, by omega, by omega⟩
  · rcases Int.lt_or_le w 0 with h | h
    · have : Int.tdiv w 32768 = -((-w) / 32768) := by
        rw [show w = -(-w) by omega, Int.neg_tdiv, Int.tdiv_eq_ediv_of_nonneg (by omega)]; simp
      rw [this]; omega
    · rw [Int.tdiv_eq_ediv_of_nonneg h]; omega
  · rcases Int.lt_or_le w 0 with h | h
    · have : Int.tdiv w 32768 = -((-w) / 32768) := by
        rw [show w = -(-w) by omega, Int.neg_tdiv, Int.tdiv_eq_ediv_of_nonneg (by omega)]; simp
      rw [this]; omega
    · rw [Int.tdiv_eq_ediv_of_nonneg h]; omega
theorem rd_ok (l : List S151) (h : ∀ T ∈ l, okTick T) (x : Nat) (hx : x < l.length) : okTick (rd_T151 l (x : Int)) := by
  unfold rd_T151
  rw [Int.toNat_natCast, List.getD, List.getElem?_eq_getElem hx]
  exact h _ (List.getElem_mem hx)
theorem wrap_next (x : Nat) (h : x < 1000) : wrap64 ((x : Int) + 1) = ((x + 1 : Nat) : Int) := by unfold wrap64; omega
theorem wr (x : Int) (h : -9223372036854775808 ≤ x ∧ x ≤ 9223372036854775807) : wrap64 x = x := by unfold wrap64; omega
theorem tick_wraps (cnt since at_ f0 f1 f3 f4 c1 g mo D N lo hi : Int) (hc1 : c1 = cnt + f0) (hg : g = since + f0) (hN : N = at_ + g + D) (hlo : lo = N - f3) (hhi : hi = N + f4) (h0 : 0 ≤ f0 ∧ f0 ≤ 4294967295) (h1 : -32768 ≤ f1 ∧ f1 ≤ 32767) (h3 : 0 ≤ f3 ∧ f3 ≤ 65535) (h4 : 0 ≤ f4 ∧ f4 ≤ 65535)
    (hc : 0 ≤ c1 ∧ c1 ≤ 1099511627776) (hgg : 0 ≤ g ∧ g ≤ 1099511627776) (ha : -3000000000000000000 ≤ at_ ∧ at_ ≤ 3000000000000000000) (hm : 0 ≤ mo ∧ mo ≤ 102400) (hD : -102400 ≤ D ∧ D ≤ 102400) (hp : -(102400 * 32768) ≤ mo * f1 ∧ mo * f1 ≤ 102400 * 32768) :
    wrap64 f0 = f0 ∧ wrap64 (cnt + f0) = c1 ∧ wrap64 (since + f0) = g ∧ wrap64 (g * 100) = g * 100 ∧ wrap64 mo = mo ∧ wrap64 f1 = f1 ∧ wrap64 (mo * f1) = mo * f1 ∧ wrap64 D = D ∧ wrap64 (at_ + g) = at_ + g ∧ wrap64 (at_ + g + D) = N ∧ wrap64 f3 = f3 ∧ wrap64 f4 = f4 ∧ wrap64 (N - f3) = lo ∧ wrap64 (N + f4) = hi := by
  subst hc1 hg hN hlo hhi
  refine ⟨?_, ?_, ?_, ?_, ?_, ?_, ?_, ?_, ?_, ?_, ?_, ?_, ?_, ?_⟩ <;> exact wr _ (by omega)
theorem loop (p i lim : Int) (hR : okRule 2147483648 ((31 : Nat) : Int) 100 p i lim 1099511627776) (hl : lim ≤ 32767) (l : List S151) (hT : ∀ T ∈ l, okTick T) (hll : l.length ≤ 60) :
    ∀ (d k x : Nat) (cnt since at_ : Int) (sy : Bool) (base tai err fr sm : Int), x + d = l.length → 3 * d + 50 ≤ k → Inv lim cnt since at_ sy base tai err fr sm → cnt ≤ (x : Int) * 4294967296 → -1152921504606846976 - (x : Int) * 1099511627776 ≤ at_ → at_ ≤ 1152921504606846976 + (x : Int) * 1099511627776 →
      fuseelaw18_HostHolds.l0 k l cnt since at_ (x : Int) 2147483648 31 100 p i lim 1099511627776 sy base tai err fr sm = some true := by
  intro d
  induction d with
  | zero =>
    intro k x cnt since at_ sy base tai err fr sm hx hk _ _ _ _
    obtain ⟨k, rfl⟩ : ∃ q, k = q + 1 := ⟨k - 1, by omega⟩
    simp only [fuseelaw18_HostHolds.l0]
    rw [if_neg (show ¬ (x : Int) < (l.length : Int) by omega), sure_at k (by omega)]
    rfl
  | succ d ih =>
    intro k x cnt since at_ sy base tai err fr sm hx hk hI hc ha0 ha1
    obtain ⟨k, rfl⟩ : ∃ q, k = q + 3 := ⟨k - 3, by omega⟩
    have hT1 := rd_ok l hT x (by omega)
    obtain ⟨T, hTe⟩ : ∃ T, T = rd_T151 l (x : Int) := ⟨_, rfl⟩
    rw [← hTe] at hT1
    obtain ⟨⟨f00, f01⟩, hf1, hf3, hf4⟩ := hT1
    have hs0 := hI.s0
    have hs1 := hI.s1
    have hgl := hR.2.2.1.2.2.2.2
    have hst := hI.st
    have hfr := hst.2.2.2.1
    have hx60 : (x : Int) < 60 := by omega
    obtain ⟨c1, hc1⟩ : ∃ c, c = cnt + T.f0 := ⟨_, rfl⟩
    obtain ⟨g, hg⟩ : ∃ g, g = since + T.f0 := ⟨_, rfl⟩
    obtain ⟨mo, D, em, eD, m0, m1, m2, D0, D1, p0, p1⟩ := drift_in g T.f1 (by omega) hf1
    obtain ⟨N, hN⟩ : ∃ N, N = at_ + g + D := ⟨_, rfl⟩
    obtain ⟨lo, hlo⟩ : ∃ x, x = N - T.f3 := ⟨_, rfl⟩
    obtain ⟨hi, hhi⟩ : ∃ x, x = N + T.f4 := ⟨_, rfl⟩
    have hW := tick_wraps cnt since at_ T.f0 T.f1 T.f3 T.f4 c1 g mo D N lo hi hc1 hg hN hlo hhi ⟨f00, f01⟩ hf1 hf3 hf4 (by omega) (by omega) (by omega) (by omega) (by omega) ⟨p0, p1⟩
    have wx := wrap_next x (by omega)
    have HW := Aside0.mk (And.intro hW wx)
    clear hW wx
    simp only [fuseelaw18_HostHolds.l0]
    rw [if_pos (by omega), if_pos (by omega), ← hTe]
    obtain ⟨w0, w1, w2, w3, w4, w5, w6, w7, w8, w9, w10, w11, w12, w13⟩ := HW.out.1
    simp only [w0, w1, w2, w3, em, w4, w5, w6, eD, w7, w8, w9, w10, w11, w12, w13]
    clear w0 w1 w2 w3 w4 w5 w6 w7 w8 w9 w10 w11 w12 w13 em eD p0 p1
    by_cases htold : T.f2 = true
    · rw [if_pos htold]
      have fin : ∀ (a b fr' sm' : Int), a ≤ N → N ≤ b → b - a ≤ 131072 → (-lim ≤ fr' ∧ fr' ≤ lim) → (-1048576 ≤ sm' ∧ sm' ≤ 1048576) →
          fuseelaw18_HostHolds.j2 (k + 2) l c1 0 N (x : Int) N 2147483648 31 100 p i lim 1099511627776 true c1 ((a + b) / 2) (b - (a + b) / 2) fr' sm' = some true := by
        intro a b fr' sm' h1 h2 h3 h4 h5
        have hI' : Inv lim c1 0 N true c1 ((a + b) / 2) (b - (a + b) / 2) fr' sm' :=
          ⟨⟨by omega, by omega, by omega, h4, h5⟩, by omega, by omega, fun _ => ⟨by omega, by omega, by omega, by omega⟩⟩
        refine j2_ok p i lim hR hl l k (by omega) c1 0 N x N true c1 _ _ fr' sm' hI' (by omega) (by omega) ⟨0, by omega, by omega, by omega⟩ (fun q hq => ?_)
        rw [HW.out.2]
        exact ih q (x + 1) c1 0 N true c1 _ _ fr' sm' (by omega) (by omega) hI' (by omega) (by omega) (by omega)
      cases sy with
      | false =>
        have hs := sync_first (k + 2) (by omega) 2147483648 31 100 p i lim 1099511627776 base tai err fr sm c1 lo hi (by omega) hR hst (by omega) (by omega) (by omega) (by omega)
        rw [hs]
        simp only [Option.bind_some, Option.isNone_none, if_true]
        exact fin lo hi fr sm (by omega) (by omega) (by omega) hfr hst.2.2.2.2
      | true =>
        obtain ⟨hb, n1, n2, n3⟩ := hI.near rfl
        have hgb : c1 - base = g := by omega
        obtain ⟨t, o, hr, o0, o1, d1, d2, t0, t1⟩ := rec_one base tai err fr c1 at_ D (by omega) (by omega) ⟨hst.2.2.1.1, n3⟩ (by omega) ⟨n1, n2⟩ (by rw [hgb]; omega)
        rw [hgb, ← hN] at d1 d2
        obtain ⟨a, haa⟩ : ∃ a, a = max lo (t - o) := ⟨_, rfl⟩
        obtain ⟨b, hbb⟩ : ∃ b, b = min hi (t + o) := ⟨_, rfl⟩
        have hs := sync_next (k + 2) (by omega) 2147483648 100 p i lim 1099511627776 31 base tai err fr sm c1 lo hi t o (by omega) hR hst (by omega) (by omega) (by omega) (by omega) hr (by omega) (by omega) a b haa hbb (by omega)
        have hv := stepV_in sm p i lim (sat ((a + b) / 2 - t)) hgl.1
        rw [show ((31 : Nat) : Int) = 31 from rfl] at hs
        rw [hs]
        simp only [Option.bind_some, Option.isNone_none, if_true]
        exact fin a b _ _ (by omega) (by omega) (by omega) ⟨hv.1, hv.2.1⟩ hv.2.2
    · rw [if_neg htold]
      have hI' : Inv lim c1 g at_ sy base tai err fr sm :=
        ⟨hst, by omega, by omega, fun h => by obtain ⟨q1, q2, q3, q4⟩ := hI.near h; exact ⟨by omega, q2, q3, q4⟩⟩
      refine j2_ok p i lim hR hl l k (by omega) c1 g at_ x N sy base tai err fr sm hI' (by omega) (by omega) ⟨D, hN, by omega, by omega⟩ (fun q hq => ?_)
      rw [HW.out.2]
      exact ih q (x + 1) c1 g at_ sy base tai err fr sm (by omega) (by omega) hI' (by omega) (by omega) (by omega)
theorem and_mask (x : Int) (n : Nat) (h : n < 65536) : 0 ≤ Go.bits .and .i64 x (n : Int) ∧ Go.bits .and .i64 x (n : Int) ≤ n := by
  have e : Go.bits .and .i64 x (n : Int) = IntKind.i64.wrap ((BitVec.ofInt 64 x &&& BitVec.ofInt 64 (n : Int)).toNat : Int) := rfl
  have e2 : (BitVec.ofInt 64 (n : Int)).toNat = n := by rw [BitVec.toNat_ofInt]; omega
  have h1 : (BitVec.ofInt 64 x &&& BitVec.ofInt 64 (n : Int)).toNat ≤ n := by
    rw [BitVec.toNat_and, e2]; exact Nat.and_le_right
  rw [e, IntKind.wrap_i64]
  omega
theorem done0 (a0 a1_0 a1_1 a1_2 : Int) (l : List S151) (hT : ∀ T ∈ l, okTick T) : ∃ k, fuseelaw18_HostHolds.f k a0 a1_0 a1_1 a1_2 l = some true := by
  refine ⟨300, ?_⟩
  unfold fuseelaw18_HostHolds.f
  obtain ⟨P, hP⟩ : ∃ P, P = Go.bits .and .i64 (wrap64 a1_0) 1023 := ⟨_, rfl⟩
  obtain ⟨I, hI⟩ : ∃ P, P = Go.bits .and .i64 (wrap64 a1_1) 1023 := ⟨_, rfl⟩
  obtain ⟨L, hL⟩ : ∃ P, P = Go.bits .and .i64 (wrap64 a1_2) 32767 := ⟨_, rfl⟩
  have bP := and_mask (wrap64 a1_0) 1023 (by omega)
  have bI := and_mask (wrap64 a1_1) 1023 (by omega)
  have bL := and_mask (wrap64 a1_2) 32767 (by omega)
  rw [show ((1023 : Nat) : Int) = 1023 from rfl, ← hP] at bP
  rw [show ((1023 : Nat) : Int) = 1023 from rfl, ← hI] at bI
  rw [show ((32767 : Nat) : Int) = 32767 from rfl, ← hL] at bL
  rw [← hP, ← hI, ← hL]
  have hR : okRule 2147483648 ((31 : Nat) : Int) 100 P I L 1099511627776 := ⟨by omega, by omega, ⟨bP.1, by omega, bI.1, by omega, bL.1, by omega⟩, by omega⟩
  have hS : okState L 0 0 0 0 0 := ⟨by omega, by omega, by omega, by omega, by omega⟩
  have hnew : host_New.f 300 2147483648 31 100 P I L 1099511627776 = some (2147483648, 31, 100, P, I, L, 1099511627776, false, 0, 0, 0, 0, 0, none) := by
    unfold host_New.f
    rw [hcheck_eq 300 (by omega) 2147483648 31 100 P I L 1099511627776 false 0 0 0 0 0 (by omega) (by unfold R64; omega) (by unfold R64; omega), if_pos ⟨hR, hS⟩]
    rfl
  simp only [fuseelaw18_rule.f, Option.bind_some, hnew, Option.isNone_none, if_true]
  have hsure : fuseelaw18_HostHolds.j0 300 a0 l none true 2147483648 31 100 P I L 1099511627776 false 0 0 0 0 0 = some true := by
    simp only [fuseelaw18_HostHolds.j0, if_true, Option.isNone_none]
    rw [sure_at 299 (by omega)]; rfl
  by_cases h1 : a0 < -1152921504606846976
  · rw [if_pos h1]; exact hsure
  · rw [if_neg h1]
    by_cases h2 : a0 > 1152921504606846976
    · rw [if_pos h2]; exact hsure
    · rw [if_neg h2]
      by_cases h3 : (l.length : Int) > 60
      · rw [decide_eq_true h3]; exact hsure
      · rw [decide_eq_false h3]
        simp only [fuseelaw18_HostHolds.j0, Bool.false_eq_true, if_false]
        exact loop P I L hR (by omega) l hT (by omega) l.length 299 0 0 0 a0 false 0 0 0 0 0 (by omega) (by omega) ⟨hS, by omega, by omega, fun h => by simp at h⟩ (by omega) (by omega) (by omega)
theorem done (a0 a1_0 a1_1 a1_2 : Int) (l : List S151) (w0 : (Lit.int .i64 a0).wf = true) (w1_0 : (Lit.int .i16 a1_0).wf = true) (w1_1 : (Lit.int .i16 a1_1).wf = true) (w1_2 : (Lit.int .i16 a1_2).wf = true) (hm2 : l.length ≤ maxLen)
    (wl : ∀ x ∈ l, (Lit.int .u32 x.f0).wf = true ∧ (Lit.int .i16 x.f1).wf = true ∧ (Lit.int .u16 x.f3).wf = true ∧ (Lit.int .u16 x.f4).wf = true) : ∃ k, fuseelaw18_HostHolds.f k a0 a1_0 a1_1 a1_2 l = some true :=
  done0 a0 a1_0 a1_1 a1_2 l (fun x hx => by
    obtain ⟨h0, h1, h3, h4⟩ := wl x hx
    simp [Lit.wf, IntKind.min, IntKind.max, IntKind.signed, IntKind.bits] at h0 h1 h3 h4
    unfold okTick
    omega)
end Go.Proofs.YtcpbfckmngbgdaaDoor.MHostHolds
