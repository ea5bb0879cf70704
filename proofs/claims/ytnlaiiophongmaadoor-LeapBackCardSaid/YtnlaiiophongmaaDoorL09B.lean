/-
  The law LeapBack, walked.
-/
import Derived.Test.YtnlaiiophongmaaDoorL09D
import Derived.Test.YtnlaiiophongmaaDoorL09E
import Derived.Test.YtnlaiiophongmaaDoorP09M
import Derived.Test.YtnlaiiophongmaaDoorWLast
namespace Go.Proofs.YtnlaiiophongmaaDoor
open Go.RowKit
set_option linter.unusedVariables false
set_option linter.unusedSimpArgs false
set_option maxRecDepth 100000
open Go.Proofs.YtnlaiiophongmaaDoorW.PrintLast
attribute [local go_sem] cell_past frozen_past lo_ne lo_ne'

open Go.Proofs.YtnlaiiophongmaaDoorW.PrintWords

open PLeapMoments in
theorem utc_none {b l a u0 u1 u2 : Int} {L : List Int} (h : utcR b l L a = (u0, u1, u2, none)) :
    tabOk b l L = true ∧ beg b L u0 ≤ a / 1000000000 ∧ a / 1000000000 < beg b L (u0 + 1) ∧ u1 = a / 1000000000 - beg b L u0 ∧ u2 = a % 1000000000 ∧ -50000 ≤ u0 ∧ u0 < l := by
  unfold utcR at h
  by_cases ht : tabOk b l L = true
  · rw [if_pos ht] at h
    unfold utcC at h
    split at h
    · simp at h
    · split at h
      · simp at h
      · next h1 h2 =>
        simp only [Prod.mk.injEq] at h
        obtain ⟨h3, h4, h5, _⟩ := h
        have hs := dayOf_spec ht (a / 1000000000)
        have hr := dayOf_range ht (s := a / 1000000000) (by omega) (by omega)
        rw [h3] at hs hr h4
        exact ⟨ht, hs.1, hs.2, h4.symm, h5.symm, hr.1, hr.2⟩
  · rw [if_neg ht] at h; simp at h
open PLeapMoments in
theorem utc_some {b l a u0 u1 u2 e : Int} {L : List Int} (ht : tabOk b l L = true) (h : utcR b l L a = (u0, u1, u2, some e)) : u0 = 0 ∧ u1 = 0 ∧ u2 = 0 ∧ (e = 2 ∨ e = 10) := by
  unfold utcR at h
  rw [if_pos ht] at h
  unfold utcC at h
  split at h
  · simp at h; obtain ⟨rfl, rfl, rfl, rfl⟩ := h; simp
  · split at h
    · simp at h; obtain ⟨rfl, rfl, rfl, rfl⟩ := h; simp
    · simp at h
open PLeapMoments in
theorem wr_in {b l d : Int} {L : List Int} (ht : tabOk b l L = true) (h1 : -50000 ≤ d) (h2 : d < l) : wr b l L d = none := by
  unfold wr; rw [if_pos ht, if_neg (by omega), if_neg (by omega)]
open PLeapMoments in
theorem wr_past {b l d : Int} {L : List Int} (ht : tabOk b l L = true) (h1 : -50000 ≤ d) (h2 : ¬ d < l) : wr b l L d = some 10 := by
  unfold wr; rw [if_pos ht, if_neg (by omega), if_pos (by omega)]
set_option maxHeartbeats 1000000 in
open PLeapMoments in
theorem LeapBack_walk (b l x y : Int) (hx : R64 x) (hy : R64 y) (A : Option Addr) (L : List Int) (c : Nat) (hc : L.length ≤ c) (w0 w : World) (hk : Kd.C (Kd.int .i64) w0 A L.length L) (hs : St w0 w) :
    Calls Tryd.prog 12 #[.agg #[.int .i64 b, .int .i64 l, .slice A L.length c], .int .i64 x, .int .i64 y] w fun e w' => e = .returned (.bool true) ∧ St w0 w' := by
  by_cases hn : 60 < (L.length : Int)
  · exact LeapBack_long b l x y A _ c w0 w hs hn
  have hn' : (L.length : Int) ≤ 60 := by omega
  have hL : L.length ≤ 60 := by omega
  have kk : ∀ w, St w0 w → Kd.C (Kd.int .i64) w A L.length L := fun w h => Kd.C_below hk h.below
  have HC := fun w h => PLeapMoments.leap_Check.calls 300 b l A c L _ w (kk w h) hc (PLeapMoments.check_eq 300 b l L hL (by omega))
  by_cases ht : tabOk b l L = true
  rotate_left
  · rw [Bool.not_eq_true] at ht
    rw [ht] at HC
    exact LeapBack_bad b l x y A _ c w0 w hs hn' HC
  rw [ht] at HC
  have hb := tab_bounds ht
  have HB := fun d w h => PLeapMoments.leap_Begin.calls 300 b l A c L d _ _ w (kk w h) hc (PLeapMoments.Begin_eq 300 b l L d hL (by omega))
  have HL := fun d w h => PLeapMoments.leap_Length.calls 300 b l A c L d _ _ w (kk w h) hc (PLeapMoments.Length_eq 300 b l L d hL (by omega))
  obtain ⟨v0, v1, v2, o2, hv⟩ : ∃ v0 v1 v2 o2, utcR b l L y = (v0, v1, v2, o2) := ⟨_, _, _, _, rfl⟩
  obtain ⟨u0, u1, u2, o1, hu⟩ : ∃ u0 u1 u2 o1, utcR b l L x = (u0, u1, u2, o1) := ⟨_, _, _, _, rfl⟩
  have HU := fun w h => PLeapMoments.leap_UTC.calls 300 b l A c L x u0 u1 u2 o1 w (kk w h) hc (by rw [PLeapMoments.UTC_eq 300 b l L x hL (by omega) hx, hu])
  have HV := fun w h => PLeapMoments.leap_UTC.calls 300 b l A c L y v0 v1 v2 o2 w (kk w h) hc (by rw [PLeapMoments.UTC_eq 300 b l L y hL (by omega) hy, hv])
  cases o1 with
  | some e =>
    obtain ⟨rfl, rfl, rfl, he⟩ := utc_some ht hu
    have HV' := fun w h => by have := HV w h; rw [errW_errV] at this; exact this
    rcases he with rfl | rfl
    · exact LeapBack_e2 b l x y A _ c v0 v1 v2 o2 w0 w hs hn' HC HU HV'
    · exact LeapBack_e10 b l x y A _ c v0 v1 v2 o2 w0 w hs hn' HC HU HV'
  | none =>
    cases o2 with
    | some e =>
      obtain ⟨rfl, rfl, rfl, he⟩ := utc_some ht hv
      exact LeapBack_f b l x y A _ c u0 u1 u2 e w0 w hs hn' HC HU HV
    | none =>
      obtain ⟨_, p1, p2, p3, p4, p5, p6⟩ := utc_none hu
      obtain ⟨_, q1, q2, q3, q4, q5, q6⟩ := utc_none hv
      have HB0 := HB u0
      have HL0 := HL u0
      have HB1 := HB (u0 + 1)
      have g := beg_bounds ht u0
      have g1 := beg_bounds ht (u0 + 1)
      have et : taiR b l L u0 u1 u2 = (x, none) := by
        unfold taiR
        rw [if_pos ⟨ht, by omega, by omega, by omega⟩, wr_in ht p5 p6]
        dsimp only
        rw [if_neg (by omega)]
        congr 1; omega
      have HT0 := fun w h => PLeapMoments.leap_TAI.calls 300 b l A c L u0 u1 u2 x none w (kk w h) hc (by rw [PLeapMoments.TAI_eq 300 b l L u0 u1 u2 hL (by omega), et])
      rw [wr_in ht p5 p6] at HB0 HL0
      have f4 : wrap64 (u0 + 1) = u0 + 1 := R64.wrap (by unfold R64; omega)
      have f5 : wrap64 (beg b L u0 * 1000000000 + wrap64 ((beg b L (u0 + 1) - beg b L u0) * 1000000000)) = beg b L (u0 + 1) * 1000000000 := by
        rw [show wrap64 ((beg b L (u0 + 1) - beg b L u0) * 1000000000) = (beg b L (u0 + 1) - beg b L u0) * 1000000000 from R64.wrap (by unfold R64; omega), R64.wrap (by unfold R64; omega)]; omega
      have less : u0 < v0 → x < y := fun h => by have := beg_mono b L (show u0 + 1 ≤ v0 by omega); omega
      have more : v0 < u0 → y < x := fun h => by have := beg_mono b L (show v0 + 1 ≤ u0 by omega); omega
      by_cases hd : u0 + 1 < l
      · rw [wr_in ht (by omega) hd] at HB1
        rcases Int.lt_trichotomy u0 v0 with h | h | h
        · have hxy := less h
          exact LeapBack_lt00 b l x y A _ c u0 u1 u2 v0 v1 v2 _ _ _ _ w0 w hs hn' h (by omega) hxy (by omega) f4 f5 HC HU HV HT0 HB0 HL0 HB1
        · subst h
          rcases Int.lt_trichotomy u1 v1 with h | h | h
          · exact LeapBack_lt10 b l x y A _ c u0 u1 u2 v1 v2 _ _ _ _ w0 w hs hn' h (by omega) (by omega) (by omega) f4 f5 HC HU HV HT0 HB0 HL0 HB1
          · subst h
            rcases Int.lt_trichotomy u2 v2 with h | h | h
            · exact LeapBack_lt20 b l x y A _ c u0 u1 u2 v2 _ _ _ _ w0 w hs hn' h (by omega) (by omega) (by omega) f4 f5 HC HU HV HT0 HB0 HL0 HB1
            · have e : x = y := by omega
              subst e
              exact LeapBack_eq0 b l x A _ c u0 u1 u2 _ _ _ _ w0 w hs hn' f4 f5 HC HU HT0 HB0 HL0 HB1
            · exact LeapBack_gt20 b l x y A _ c u0 u1 u2 v2 _ _ _ _ w0 w hs hn' (by omega) (by omega) (by omega) (by omega) f4 f5 HC HU HV HT0 HB0 HL0 HB1
          · exact LeapBack_gt10 b l x y A _ c u0 u1 u2 v1 v2 _ _ _ _ w0 w hs hn' (by omega) (by omega) (by omega) (by omega) f4 f5 HC HU HV HT0 HB0 HL0 HB1
        · have hxy := more h
          exact LeapBack_gt00 b l x y A _ c u0 u1 u2 v0 v1 v2 _ _ _ _ w0 w hs hn' (by omega) (by omega) (by omega) (by omega) f4 f5 HC HU HV HT0 HB0 HL0 HB1
      · rw [wr_past ht (by omega) hd] at HB1
        rcases Int.lt_trichotomy u0 v0 with h | h | h
        · have hxy := less h
          exact LeapBack_lt01 b l x y A _ c u0 u1 u2 v0 v1 v2 _ _ _ w0 w hs hn' h (by omega) hxy (by omega) f4 HC HU HV HT0 HB0 HL0 HB1
        · subst h
          rcases Int.lt_trichotomy u1 v1 with h | h | h
          · exact LeapBack_lt11 b l x y A _ c u0 u1 u2 v1 v2 _ _ _ w0 w hs hn' h (by omega) (by omega) (by omega) f4 HC HU HV HT0 HB0 HL0 HB1
          · subst h
            rcases Int.lt_trichotomy u2 v2 with h | h | h
            · exact LeapBack_lt21 b l x y A _ c u0 u1 u2 v2 _ _ _ w0 w hs hn' h (by omega) (by omega) (by omega) f4 HC HU HV HT0 HB0 HL0 HB1
            · have e : x = y := by omega
              subst e
              exact LeapBack_eq1 b l x A _ c u0 u1 u2 _ _ _ w0 w hs hn' f4 HC HU HT0 HB0 HL0 HB1
            · exact LeapBack_gt21 b l x y A _ c u0 u1 u2 v2 _ _ _ w0 w hs hn' (by omega) (by omega) (by omega) (by omega) f4 HC HU HV HT0 HB0 HL0 HB1
          · exact LeapBack_gt11 b l x y A _ c u0 u1 u2 v1 v2 _ _ _ w0 w hs hn' (by omega) (by omega) (by omega) (by omega) f4 HC HU HV HT0 HB0 HL0 HB1
        · have hxy := more h
          exact LeapBack_gt01 b l x y A _ c u0 u1 u2 v0 v1 v2 _ _ _ w0 w hs hn' (by omega) (by omega) (by omega) (by omega) f4 HC HU HV HT0 HB0 HL0 HB1

end Go.Proofs.YtnlaiiophongmaaDoor
