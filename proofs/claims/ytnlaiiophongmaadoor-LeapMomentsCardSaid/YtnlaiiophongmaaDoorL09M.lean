/-
  The law LeapMoments, walked.
-/
import Derived.Test.YtnlaiiophongmaaDoorL09C
import Derived.Test.YtnlaiiophongmaaDoorP09M
import Derived.Test.YtnlaiiophongmaaDoorWLast
namespace Go.Proofs.YtnlaiiophongmaaDoor
open Go.RowKit
set_option linter.unusedVariables false
set_option linter.unusedSimpArgs false
set_option maxRecDepth 100000
open Go.Proofs.YtnlaiiophongmaaDoorW.PrintLast
attribute [local go_sem] cell_past frozen_past lo_ne lo_ne'

open Go.Proofs.YtnlaiiophongmaaDoorW.PrintWords

theorem LeapMoments_walk (b l t m0 m1 m2 : Int) (ht : R64 t) (A : Option Addr) (L : List Int) (c : Nat) (hc : L.length ≤ c) (w0 w : World) (hk : Kd.C (Kd.int .i64) w0 A L.length L) (hs : St w0 w) :
    Calls Tryd.prog 11 #[.agg #[.int .i64 b, .int .i64 l, .slice A L.length c], .int .i64 t, .agg #[.int .i64 m0, .int .i64 m1, .int .i64 m2]] w fun e w' => e = .returned (.bool true) ∧ St w0 w' := by
  by_cases hn : 60 < (L.length : Int)
  · exact LeapMoments_long b l t m0 m1 m2 A _ c w0 w hs hn
  have hn' : (L.length : Int) ≤ 60 := by omega
  have hL : L.length ≤ 60 := by omega
  have kk : ∀ w, St w0 w → Kd.C (Kd.int .i64) w A L.length L := fun w h => Kd.C_below hk h.below
  refine LeapMoments_core b l t m0 m1 m2 _ _ _ _ _ _ A _ c w0 w hs hn'
    (fun w h => by have := PLeapMoments.leap_UTC.calls 300 b l A c L t _ _ _ _ w (kk w h) hc (PLeapMoments.UTC_eq 300 b l L t hL (by omega) ht); rw [PLeapMoments.errW_errV] at this; exact this)
    (fun w h => PLeapMoments.fuseeref09_UTC.calls 300 b l A c L t _ _ _ _ w (kk w h) hc (PLeapMoments.rUTC_eq 300 b l L t hL (by omega) ht))
    (fun w h => by have := PLeapMoments.leap_TAI.calls 300 b l A c L m0 m1 m2 _ _ w (kk w h) hc (PLeapMoments.TAI_eq 300 b l L m0 m1 m2 hL (by omega)); rw [PLeapMoments.errW_errV] at this; exact this)
    (fun w h => PLeapMoments.fuseeref09_TAI.calls 300 b l A c L m0 m1 m2 _ _ w (kk w h) hc (PLeapMoments.rTAI_eq 300 b l L m0 m1 m2 hL (by omega)))

end Go.Proofs.YtnlaiiophongmaaDoor
