/-
  fuseeref23.Sum walked.
-/
import Derived.Test.YtiljnlhmeolhfaaRq
import Derived.Deep.RegionHeld3
import Derived.Laws.IdiomCopy
import Derived.Deep.DeepCutAuto
import Derived.Deep.CutBlock
import Derived.LoopTactic
namespace Go.Proofs.Ytiljnlhmeolhfaa.MPf
open Go.RowKit Go.Proofs.YtiljnlhmeolhfaaW.PrintWords Go.Proofs.YtiljnlhmeolhfaaW.PrintLast Go.Proofs.YtiljnlhmeolhfaaW.PrintMore
set_option linter.unusedVariables false
set_option linter.unusedSimpArgs false

/-- the bytes, zeros up to seven in the last eight, and the length -/
def allB (l : List Int) : List Int := l ++ List.replicate (7 - l.length % 8) 0 ++ [(l.length : Int) % 256]
/-- words taken in, as many as there are -/
def absorbR : Nat → St4 → List Int → St4
  | 0, s, _ => s
  | n + 1, s, l => absorbR n (takeS s (refW (l.take 8))) (l.drop 8)
def refSumV (kl kh b : List Int) : Int := endS (absorbR ((allB b).length / 8) (start4 (refW kl) (refW kh)) (allB b))
set_option maxHeartbeats 2000000 in
set_option maxRecDepth 100000 in
theorem refsum_calls (a0 a1 a2 a3 a4 a5 a6 a7 a8 a9 a10 a11 a12 a13 a14 a15 : Int) (A : Option Addr) (c : Nat) (l : List Int) (w : World) (hC : (Kd.int .u8).C w A l.length l) (hc : l.length ≤ c) (hL : l.length ≤ 140737488351232) :
    Calls Try.prog 9 #[.agg #[.int .u8 a0, .int .u8 a1, .int .u8 a2, .int .u8 a3, .int .u8 a4, .int .u8 a5, .int .u8 a6, .int .u8 a7, .int .u8 a8, .int .u8 a9, .int .u8 a10, .int .u8 a11, .int .u8 a12, .int .u8 a13, .int .u8 a14, .int .u8 a15], .slice A l.length c] w fun e w' => e = .returned (.int .u64 (refSumV [a0, a1, a2, a3, a4, a5, a6, a7] [a8, a9, a10, a11, a12, a13, a14, a15] l)) ∧ Below w.heap.size w w' := by
  obtain ⟨x, hx⟩ : ∃ x, x = refW [a0, a1, a2, a3, a4, a5, a6, a7] := ⟨_, rfl⟩
  obtain ⟨y, hy⟩ : ∃ y, y = refW [a8, a9, a10, a11, a12, a13, a14, a15] := ⟨_, rfl⟩
  obtain ⟨w1, hw1⟩ : ∃ w1, w1 = w.alloc (.cells #[.int .u8 a0, .int .u8 a1, .int .u8 a2, .int .u8 a3, .int .u8 a4, .int .u8 a5, .int .u8 a6, .int .u8 a7, .int .u8 a8, .int .u8 a9, .int .u8 a10, .int .u8 a11, .int .u8 a12, .int .u8 a13, .int .u8 a14, .int .u8 a15] 22) := ⟨_, rfl⟩
  obtain ⟨gk, hgk⟩ : ∃ gk, gk = w.heap.size := ⟨_, rfl⟩
  have hk1 : w1.heap[gk]? = some (.cells #[.int .u8 a0, .int .u8 a1, .int .u8 a2, .int .u8 a3, .int .u8 a4, .int .u8 a5, .int .u8 a6, .int .u8 a7, .int .u8 a8, .int .u8 a9, .int .u8 a10, .int .u8 a11, .int .u8 a12, .int .u8 a13, .int .u8 a14, .int .u8 a15] 22 (0, 0)) := by rw [hw1, hgk]; exact heap_alloc_new w _
  have hb1 : Below w.heap.size w w1 := by rw [hw1]; exact (Below.refl _ w).alloc (Nat.le_refl _) _
  have hWl : ∀ W, W.heap[gk]? = some (.cells #[.int .u8 a0, .int .u8 a1, .int .u8 a2, .int .u8 a3, .int .u8 a4, .int .u8 a5, .int .u8 a6, .int .u8 a7, .int .u8 a8, .int .u8 a9, .int .u8 a10, .int .u8 a11, .int .u8 a12, .int .u8 a13, .int .u8 a14, .int .u8 a15] 22 (0, 0)) → Calls Try.prog 32 #[.slice (some ⟨gk, 0, none⟩) 8 16] W fun e w' => e = .returned (.int .u64 x) ∧ Below W.heap.size W w' := fun W h => by rw [hx]; exact refnum_calls (some ⟨gk, 0, none⟩) 16 [a0, a1, a2, a3, a4, a5, a6, a7] W (aslice_C h rfl (by simp) rfl) (by simp) (by simp)
  have hWh : ∀ W, W.heap[gk]? = some (.cells #[.int .u8 a0, .int .u8 a1, .int .u8 a2, .int .u8 a3, .int .u8 a4, .int .u8 a5, .int .u8 a6, .int .u8 a7, .int .u8 a8, .int .u8 a9, .int .u8 a10, .int .u8 a11, .int .u8 a12, .int .u8 a13, .int .u8 a14, .int .u8 a15] 22 (0, 0)) → Calls Try.prog 32 #[.slice (some ⟨gk, 8, none⟩) 8 8] W fun e w' => e = .returned (.int .u64 y) ∧ Below W.heap.size W w' := fun W h => by rw [hy]; exact refnum_calls (some ⟨gk, 8, none⟩) 8 [a8, a9, a10, a11, a12, a13, a14, a15] W (aslice_C h rfl (by simp) rfl) (by simp) (by simp)
  have hgkw : gk < w1.heap.size := (Array.getElem?_eq_some_iff.1 hk1).1
  unfold refSumV
  rw [← hx, ← hy]
  clear hx hy
  obtain ⟨s0, hs0⟩ : ∃ s0, s0 = start4 x y := ⟨_, rfl⟩
  rw [← hs0]
  have gA : Hid (Go.bits .xor .u64 x 8317987319222330741 = s0.a) := Lib.hid (by rw [hs0]; rfl)
  have gB : Hid (Go.bits .xor .u64 y 7237128888997146477 = s0.b) := Lib.hid (by rw [hs0]; rfl)
  have gC : Hid (Go.bits .xor .u64 x 7816392313619706465 = s0.c) := Lib.hid (by rw [hs0]; rfl)
  have gD : Hid (Go.bits .xor .u64 y 8387220255154660723 = s0.d) := Lib.hid (by rw [hs0]; rfl)
  have HU0 : Aside0 (U4 s0) := ⟨by rw [hs0]; exact ⟨xor_range _ _, xor_range _ _, xor_range _ _, xor_range _ _⟩⟩
  clear hs0
  have HW := Lib.hid hw1
  have HG := Lib.hid hgk
  go_enter Try.func9, Try.ntmps9
  clear hw1 hgk
  go_wp2
  rw [← HW.out, ← HG.out]
  have HB : Aside0 (Below w.heap.size w w1.drew) := ⟨hb1.drew⟩
  have HK : Aside0 (w1.drew.heap[gk]? = some (.cells #[.int .u8 a0, .int .u8 a1, .int .u8 a2, .int .u8 a3, .int .u8 a4, .int .u8 a5, .int .u8 a6, .int .u8 a7, .int .u8 a8, .int .u8 a9, .int .u8 a10, .int .u8 a11, .int .u8 a12, .int .u8 a13, .int .u8 a14, .int .u8 a15] 22 (0, 0))) := ⟨hk1⟩
  clear hk1 hb1 hgkw
  go_upto_region 1 with (fail)
  go_cut [5, 6] (fun v5 v6 wc => v5 = .int .u64 x ∧ v6 = .int .u64 y ∧ Aside0 (Below w.heap.size w wc))
  case first =>
    go_region_with (first | (go_at_call 32; (with_reducible refine (hWl _ HK.out).mono ?_); rintro e w2 ⟨rfl, hb2⟩; have nB := Aside0.mk (HB.out.trans (hb2.mono HB.out.size)); have nK := Aside0.mk ((hb2.block gk ((Array.getElem?_eq_some_iff.1 HK.out).1)).trans HK.out); clear HB HK hb2; have HB := nB; have HK := nK; clear nB nK) | (go_at_call 32; (with_reducible refine (hWh _ HK.out).mono ?_); rintro e w2 ⟨rfl, hb2⟩; have nB := Aside0.mk (HB.out.trans (hb2.mono HB.out.size)); have nK := Aside0.mk ((hb2.block gk ((Array.getElem?_eq_some_iff.1 HK.out).1)).trans HK.out); clear HB HK hb2; have HB := nB; have HK := nK; clear nB nK))
    all_goals
      go_simp
      rename_i hK_ wx_
      refine hK_ _ _ ?_
      go_meet
      case rel => exact ⟨rfl, rfl, HB⟩
  case rest =>
    clear HB HK hWl hWh HW
    obtain ⟨rfl, rfl, HB⟩ := hcut
    have ha := gA.out; have hb := gB.out; have hc' := gC.out; have hd := gD.out
    clear gA gB gC gD
    go_upto_region 4 with (fail)
    obtain ⟨wb, hwb⟩ : ∃ wb, wb = wc.alloc (.cells #[.int .u64 s0.a, .int .u64 s0.b, .int .u64 s0.c, .int .u64 s0.d] 62) := ⟨_, rfl⟩
    have hst : wb.heap[wc.heap.size]? = some (.cells #[.int .u64 s0.a, .int .u64 s0.b, .int .u64 s0.c, .int .u64 s0.d] 62 (0, 0)) := by rw [hwb]; exact heap_alloc_new wc _
    have hbb : Below w.heap.size w wb := by rw [hwb]; exact HB.out.alloc HB.out.size _
    have hC0 := Aside0.mk (Kd.C_below hC hbb)
    have hgs : w.heap.size ≤ wc.heap.size := HB.out.size
    have hlg : wc.heap.size < wb.heap.size := (Array.getElem?_eq_some_iff.1 hst).1
    rw [← hwb]
    generalize wc.heap.size = gs at hst hgs hlg ⊢
    have HB2 := Aside0.mk hbb
    have HS := Aside0.mk hst
    have HGL := Aside0.mk hlg
    have HL := Aside0.mk hL
    clear hwb hC HB hst hbb hlg hL
    go_wp2_with (first | ((with_reducible refine gate_builtin (b := .append) (xs := #[.tmp 24, .tmp 25]) rfl ?_); at_builtin; refine Kd.R_append_rows (Kd.int .u8) (w0 := w) w.heap.size rfl (.tmp 24) (.tmp 25) 23 5 (.int .u8 0) 1 rfl Try.underlying23 info5 rfl (by decide) (by omega) (.slice none 0 0) ([] : List Int) l _ _ _ (fun k => k ≠ gs) (fun _ => False) rfl rfl ?aO ?aR (fun _ _ h => h) (fun _ h => h.elim) ?aF ?aB ?aS ?aL ?_; (case aR => exact hC0.out); (case aB => exact HB2.out); (case aF => exact (fun k hk => by have := HGL.out; omega)); (case aO => exact ((Kd.R_nil _ _ _ _ (fun k => k ≠ gs)))); (case aS => exact HB2.out.size); (case aL => have := HL.out; simp; omega); intro v8 w5 ho hb hg hat; have nS := Aside0.mk (blk_grown HS.out hg (by simp [Value.ownBlock])); have nO := Aside0.mk ho; have nB := Aside0.mk hb; have nG := Aside0.mk (Nat.lt_of_lt_of_le HGL.out hg.size); clear HS HB2 HGL ho hb hg hat; have HS := nS; have HO := nO; have HB2 := nB; have HGL := nG; clear nS nO nB nG))
    go_loopw [8] (fun v wr => ∃ z : Nat, Aside0 (z ≤ 7 - l.length % 8) ∧ Aside0 ((Kd.int .u8).R 5 wr w.heap.size (fun k => k ≠ gs) v (l ++ List.replicate z 0)) ∧ Aside0 (wr.heap[gs]? = some (.cells #[.int .u64 s0.a, .int .u64 s0.b, .int .u64 s0.c, .int .u64 s0.d] 62 (0, 0))) ∧ Aside0 (Below w.heap.size w wr))
      (fun v _ => match v with | .slice _ n _ => l.length + 7 - n | _ => 0)
    case atStart => exact ⟨0, ⟨Nat.zero_le _⟩, ⟨by simpa using HO.out⟩, HS, HB2⟩
    case round =>
      clear HS HO HB2 HGL
      obtain ⟨z, hz, hO, hS, hB⟩ := hrel
      have HGL : Aside0 (gs < wr.heap.size) := ⟨(Array.getElem?_eq_some_iff.1 hS.out).1⟩
      obtain ⟨L, hLz⟩ : ∃ L, L = l ++ List.replicate z 0 := ⟨_, rfl⟩
      rw [← hLz] at hO
      have HLZ := Lib.hid hLz
      clear hLz
      obtain ⟨A2, c2, rfl⟩ := Kd.R_slice hO.out
      by_cases h7 : (L.length : Int) % 8 = 7
      · have hLL : L = l ++ List.replicate (7 - l.length % 8) 0 := by
          have e := HLZ.out
          have hz' := hz.out
          have hlen : L.length = l.length + z := by rw [e]; simp
          have : z = 7 - l.length % 8 := by omega
          rw [e, this]
        have h7b : ((L.length : Int) % 8 == 7) = true := beq_iff_eq.mpr h7
        have h7c : ((L.length : Int) % 8 != 7) = false := bne_eq_false_iff_eq.mpr h7
        have h7d := decide_eq_true h7
        have HLL := Lib.hid hLL
        have H7 := Lib.hid h7
        clear h7 hLL HLZ hz
        obtain ⟨n0, hn0⟩ : ∃ n0, (l.length : Int) % 256 = n0 := ⟨_, rfl⟩
        have hn1 : n0 % 256 = n0 := by omega
        have HAL : Hid ((L.length + 1) * 1 ≤ 140737488355328 ∧ (L.length + 1) % 8 = 0) := Lib.hid (by have e_ := HLL.out; have l_ := HL.out; have h_ := H7.out; have : L.length = l.length + (7 - l.length % 8) := (by rw [e_]; simp); omega)
        have HALL : Hid (L ++ [n0] = allB l) := Lib.hid (by rw [HLL.out, ← hn0]; rfl)
        go_upto_region 7 with (fail)
        go_wp2_with (first | ((with_reducible refine gate_builtin (b := .append) (xs := #[.tmp 34, .tmp 39]) rfl ?_); at_builtin; refine Kd.R_append (Kd.int .u8) (w0 := w) w.heap.size rfl (.tmp 34) (.tmp 39) 23 5 (.int .u8 0) 1 rfl Try.underlying23 info5 rfl (by decide) (by omega) (.slice A2 L.length c2) L n0 [.int .u8 n0] (fun k => k ≠ gs) (fun _ => False) rfl rfl ?aP (fun _ hk => hk.elim) ?aF hO.out hB.out hB.out.size ?aL ?_; (case aP => exact rfl); (case aF => intro k hk; have h1_ := HGL.out; omega); (case aL => exact HAL.out.1); intro v9 w6 ho hb hg hat; have nS := Aside0.mk (blk_grown hS.out hg (by intro e_; exact (hO.out.1 gs e_.symm) rfl)); have nO := Aside0.mk ho; have nB := Aside0.mk hb; clear ho hb hg hat hO hB hS HGL; have hO := nO; have hB := nB; have hS := nS; clear nO nB nS))
        clear hn0 hn1
        obtain ⟨M, hM⟩ : ∃ M, M = L ++ [n0] := ⟨_, rfl⟩
        have HM : Hid (M = allB l ∧ M.length % 8 = 0 ∧ M.length ≤ 140737488355328) := Lib.hid (by rw [hM]; refine ⟨HALL.out, ?_⟩; have := HAL.out; simp; omega)
        rw [← hM] at hO
        clear hM HALL HAL HLL H7
        obtain ⟨A3, c3, rfl⟩ := Kd.R_slice hO.out
        have HC3 := Lib.hid (Kd.R_reads' hO.out).2.1
        go_loopw [9] (fun v9 wr => ∃ (m : Nat) (s : St4) (i : Int), Aside0 (i = ((8 * m : Nat) : Int) ∧ 8 * m ≤ M.length ∧ absorbR (M.length / 8 - m) s (M.drop (8 * m)) = absorbR (M.length / 8) s0 M) ∧ v9 = .int .i64 i ∧ Aside0 (U4 s) ∧ Aside0 ((Kd.int .u8).R 5 wr w.heap.size (fun k => k ≠ gs) (.slice A3 M.length c3) M) ∧ Aside0 (wr.heap[gs]? = some (.cells #[.int .u64 s.a, .int .u64 s.b, .int .u64 s.c, .int .u64 s.d] 62 (0, 0))) ∧ Aside0 (Below w.heap.size w wr))
          (fun v _ => match v with | .int _ i => (M.length - i).toNat | _ => 0)
        case atStart => exact ⟨0, s0, 0, ⟨rfl, by omega, by simp⟩, rfl, HU0, hO, hS, hB⟩
        case round =>
          clear hO hS hB
          obtain ⟨m, s, i, hm, rfl, hU, hO, hS, hB⟩ := hrel
          have hi0 : 0 ≤ i := by have := hm.out.1; omega
          have hi1 : i ≤ 140737488355328 := by have := hm.out.1; have := hm.out.2.1; have := HM.out.2.2; omega
          by_cases h8 : i + 8 ≤ (M.length : Int)
          · have hd := decide_eq_true h8
            obtain ⟨i0, hi0', _, hsz, _⟩ := info_parts info5
            have cut := cut_mid (P := Try.prog) 23 5 .i64 .i64 Try.underlying23 hi0' 1 hsz A3 M.length c3 i (i + 8) hi0 (by omega) h8 HC3.out
            rw [show (i + 8).toNat - i.toNat = 8 by omega] at cut
            have hmid := Kd.C_mid (k := Kd.int .u8) (lo := i.toNat) (hi := (i + 8).toNat) (Kd.R_reads' hO.out).2.2 (by omega) (by omega) HC3.out
            obtain ⟨B8, hB8⟩ : ∃ B8, B8 = (M.take (i + 8).toNat).drop i.toNat := ⟨_, rfl⟩
            have hB8l : B8.length = 8 := by rw [hB8]; simp; omega
            have hB8e : B8 = (M.drop (8 * m)).take 8 := by
              have := hm.out.1
              rw [hB8, List.drop_take, show i.toNat = 8 * m by omega, show (i + 8).toNat - 8 * m = 8 by omega]
            rw [← hB8, show (Kd.int .u8).sz = 1 from rfl] at hmid
            obtain ⟨A4, hA4⟩ : ∃ A4, A4 = (if c3 = i.toNat then A3 else A3.map (·.add (i.toNat * 1))) := ⟨_, rfl⟩
            rw [← hA4] at cut hmid
            have hnum : ∀ W, Below wr.heap.size wr W → Calls Try.prog 32 #[.slice A4 8 (c3 - i.toNat)] W fun e w' => e = .returned (.int .u64 (refW B8)) ∧ Below W.heap.size W w' := fun W hb => by
              have h := refnum_calls A4 (c3 - i.toNat) B8 W (Kd.C_below hmid hb) (by have := HC3.out; omega) hB8l
              rw [hB8l] at h; exact h
            have HN := Aside0.mk hnum
            have H8 := Aside0.mk (And.intro h8 (And.intro hB8e hB8l))
            clear hB8 hA4 hmid hnum hB8l hB8e hsz hi0' h8
            go_upto_region 11 with (fail)
            go_upto_region 12 with (first | (go_at_call 32; (with_reducible refine (HN.out _ (Below.refl _ _)).mono ?_); rintro e w2 ⟨rfl, hb2⟩; have nB := Aside0.mk (hB.out.trans (hb2.mono hB.out.size)); have nS := Aside0.mk ((hb2.block gs ((Array.getElem?_eq_some_iff.1 hS.out).1)).trans hS.out); have nO := Aside0.mk (Kd.R_below hO.out hb2); clear hB hS hO HN hb2; have hB := nB; have hS := nS; have hO := nO; clear nB nS nO))
            have q3 : w2.cell? ⟨gs, 3, none⟩ = some (.int .u64 s.d) := (blk_cell hS.out 3).trans rfl
            have f3 := blk_frozen hS.out 3
            clear cut hi0 hi1 hd
            go_upto_region 13 with (fail)
            obtain ⟨d1, hd1⟩ : ∃ d1, d1 = Go.bits .xor .u64 s.d (refW B8) := ⟨_, rfl⟩
            refine name_w (fun w3 hq_ => ?_)
            have nS : Aside0 (w3.heap[gs]? = some (.cells #[.int .u64 s.a, .int .u64 s.b, .int .u64 s.c, .int .u64 d1] 62 (0, 0))) := ⟨by rw [hq_, hd1]; exact blk_put (cs := #[.int .u64 s.a, .int .u64 s.b, .int .u64 s.c, .int .u64 s.d]) hS.out 3 _ rfl⟩
            have nB : Aside0 (Below w.heap.size w w3) := ⟨by rw [hq_]; exact hB.out.setCell hgs _⟩
            have nO : Aside0 ((Kd.int .u8).R 5 w3 w.heap.size (fun k => k ≠ gs) (.slice A3 M.length c3) M) := ⟨by rw [hq_]; exact Kd.R_far hO.out (fun _ h => h) _⟩
            clear hq_ hS hB hO q3 f3
            obtain ⟨t1, ht1⟩ : ∃ t1, t1 = rnd ⟨s.a, s.b, s.c, d1⟩ := ⟨_, rfl⟩
            obtain ⟨t2, ht2⟩ : ∃ t2, t2 = rnd t1 := ⟨_, rfl⟩
            have hU1 : U4 ⟨s.a, s.b, s.c, d1⟩ := ⟨hU.out.1, hU.out.2.1, hU.out.2.2.1, by rw [hd1]; exact xor_range _ _⟩
            have HR1 := Aside0.mk (round_eq _ hU1)
            have HR2 := Aside0.mk (round_eq t1 (by rw [ht1]; exact rnd_U4 _))
            have HU2 := Aside0.mk (show U4 t2 by rw [ht2]; exact rnd_U4 _)
            rw [← ht1] at HR1
            rw [← ht2] at HR2
            have HT := Aside0.mk (show t2 = rnd (rnd ⟨s.a, s.b, s.c, Go.bits .xor .u64 s.d (refW B8)⟩) by rw [ht2, ht1, hd1])
            clear ht1 ht2 hd1 hU1
            have q0 : w3.cell? ⟨gs, 0, none⟩ = some (.int .u64 s.a) := (blk_cell nS.out 0).trans rfl
            have q1 : w3.cell? ⟨gs, 1, none⟩ = some (.int .u64 s.b) := (blk_cell nS.out 1).trans rfl
            have q2 : w3.cell? ⟨gs, 2, none⟩ = some (.int .u64 s.c) := (blk_cell nS.out 2).trans rfl
            have q3 : w3.cell? ⟨gs, 3, none⟩ = some (.int .u64 d1) := (blk_cell nS.out 3).trans rfl
            go_upto_region 14 with (go_at_call 33; ((with_reducible refine (fuseeref23_round.calls _ _ _ _ t1.a t1.b t1.c t1.d _ HR1.out).mono ?_); rintro e w4 ⟨rfl, hb4⟩; clear q0 q1 q2 q3; have mS := Aside0.mk ((hb4.block gs ((Array.getElem?_eq_some_iff.1 nS.out).1)).trans nS.out); have mB := Aside0.mk (nB.out.trans (hb4.mono nB.out.size)); have mO := Aside0.mk (Kd.R_below nO.out hb4); clear nS nB nO hb4))
            (with_reducible refine (fuseeref23_round.calls _ _ _ _ t2.a t2.b t2.c t2.d _ HR2.out).mono ?_)
            rintro e w5 ⟨rfl, hb4⟩
            have nS := Aside0.mk ((hb4.block gs ((Array.getElem?_eq_some_iff.1 mS.out).1)).trans mS.out)
            have nB := Aside0.mk (mB.out.trans (hb4.mono mB.out.size))
            have nO := Aside0.mk (Kd.R_below mO.out hb4)
            clear mS mB mO hb4
            have f0 := blk_frozen nS.out 0
            have f1 := blk_frozen nS.out 1
            have f2 := blk_frozen nS.out 2
            have f3 := blk_frozen nS.out 3
            have q0 : w5.cell? ⟨gs, 0, none⟩ = some (.int .u64 s.a) := (blk_cell nS.out 0).trans rfl
            have q1 : w5.cell? ⟨gs, 1, none⟩ = some (.int .u64 s.b) := (blk_cell nS.out 1).trans rfl
            have q2 : w5.cell? ⟨gs, 2, none⟩ = some (.int .u64 s.c) := (blk_cell nS.out 2).trans rfl
            have q3 : w5.cell? ⟨gs, 3, none⟩ = some (.int .u64 d1) := (blk_cell nS.out 3).trans rfl
            go_upto_region 14 with (fail)
            refine name_w (fun w6 hq_ => ?_)
            have mS : Aside0 (w6.heap[gs]? = some (.cells #[.int .u64 t2.a, .int .u64 t2.b, .int .u64 t2.c, .int .u64 t2.d] 62 (0, 0))) := ⟨by rw [hq_]; exact blk_put (cs := #[.int .u64 t2.a, .int .u64 t2.b, .int .u64 t2.c, .int .u64 d1]) (blk_put (cs := #[.int .u64 t2.a, .int .u64 t2.b, .int .u64 s.c, .int .u64 d1]) (blk_put (cs := #[.int .u64 t2.a, .int .u64 s.b, .int .u64 s.c, .int .u64 d1]) (blk_put (cs := #[.int .u64 s.a, .int .u64 s.b, .int .u64 s.c, .int .u64 d1]) nS.out 0 _ rfl) 1 _ rfl) 2 _ rfl) 3 _ rfl⟩
            have mB : Aside0 (Below w.heap.size w w6) := ⟨by rw [hq_]; exact (((nB.out.setCell hgs _).setCell hgs _).setCell hgs _).setCell hgs _⟩
            have mO : Aside0 ((Kd.int .u8).R 5 w6 w.heap.size (fun k => k ≠ gs) (.slice A3 M.length c3) M) := ⟨by rw [hq_]; exact Kd.R_far (Kd.R_far (Kd.R_far (Kd.R_far nO.out (fun _ h => h) _) (fun _ h => h) _) (fun _ h => h) _) (fun _ h => h) _⟩
            clear hq_ nS nB nO q0 q1 q2 q3 f0 f1 f2 f3
            have q0 : w6.cell? ⟨gs, 0, none⟩ = some (.int .u64 t2.a) := (blk_cell mS.out 0).trans rfl
            have f0 := blk_frozen mS.out 0
            have hi1 : i ≤ 140737488355328 := by have := hm.out.1; have := hm.out.2.1; have := HM.out.2.2; omega
            have hi0 : 0 ≤ i := by have := hm.out.1; omega
            go_wp2_with (fail)
            go_roundw
            case rel =>
              have e : takeS s (refW B8) = ⟨Go.bits .xor .u64 t2.a (refW B8), t2.b, t2.c, t2.d⟩ := by unfold takeS; simp only; rw [← HT.out]
              refine ⟨m + 1, ⟨Go.bits .xor .u64 t2.a (refW B8), t2.b, t2.c, t2.d⟩, i + 8, ⟨?_, ?_, ?_⟩, rfl, ⟨⟨xor_range _ _, HU2.out.2.1, HU2.out.2.2.1, HU2.out.2.2.2⟩⟩, ⟨Kd.R_far mO.out (fun _ h => h) _⟩, ⟨blk_put (cs := #[.int .u64 t2.a, .int .u64 t2.b, .int .u64 t2.c, .int .u64 t2.d]) mS.out 0 _ rfl⟩, ⟨mB.out.setCell hgs _⟩⟩
              · have := hm.out.1; omega
              · have := hm.out.1; have := H8.out.1; omega
              · have h1 := hm.out.1
                have h2 := H8.out.1
                have h3 := HM.out.2.1
                rw [← hm.out.2.2, show M.length / 8 - m = (M.length / 8 - (m + 1)) + 1 by omega]
                simp only [absorbR]
                rw [← H8.out.2.1, List.drop_drop, show 8 * m + 8 = 8 * (m + 1) by omega, e]
            case measure =>
              have := H8.out.1
              simp only
              omega
          · have hd := decide_eq_false h8
            have HE : Aside0 (absorbR (M.length / 8) s0 M = s) := ⟨by
              have h1 := hm.out.1
              have h2 := hm.out.2.1
              have h3 := HM.out.2.1
              rw [← hm.out.2.2, show M.length / 8 - m = 0 by omega]; rfl⟩
            have q2 : wr.cell? ⟨gs, 2, none⟩ = some (.int .u64 s.c) := (blk_cell hS.out 2).trans rfl
            have f2 := blk_frozen hS.out 2
            clear hm h8
            go_upto_region 16 with (fail)
            obtain ⟨c1, hc1⟩ : ∃ c1, c1 = Go.bits .xor .u64 s.c 255 := ⟨_, rfl⟩
            refine name_w (fun w3 hq_ => ?_)
            have nS : Aside0 (w3.heap[gs]? = some (.cells #[.int .u64 s.a, .int .u64 s.b, .int .u64 c1, .int .u64 s.d] 62 (0, 0))) := ⟨by rw [hq_, hc1]; exact blk_put (cs := #[.int .u64 s.a, .int .u64 s.b, .int .u64 s.c, .int .u64 s.d]) hS.out 2 _ rfl⟩
            have nB : Aside0 (Below w.heap.size w w3) := ⟨by rw [hq_]; exact hB.out.setCell hgs _⟩
            clear hq_ hS hB hO q2 f2
            obtain ⟨t1, ht1⟩ : ∃ t1, t1 = rnd ⟨s.a, s.b, c1, s.d⟩ := ⟨_, rfl⟩
            obtain ⟨t2, ht2⟩ : ∃ t2, t2 = rnd t1 := ⟨_, rfl⟩
            obtain ⟨t3, ht3⟩ : ∃ t3, t3 = rnd t2 := ⟨_, rfl⟩
            obtain ⟨t4, ht4⟩ : ∃ t4, t4 = rnd t3 := ⟨_, rfl⟩
            have hU1 : U4 ⟨s.a, s.b, c1, s.d⟩ := ⟨hU.out.1, hU.out.2.1, by rw [hc1]; exact xor_range _ _, hU.out.2.2.2⟩
            have HR1 := Aside0.mk (round_eq _ hU1)
            have HR2 := Aside0.mk (round_eq t1 (by rw [ht1]; exact rnd_U4 _))
            have HR3 := Aside0.mk (round_eq t2 (by rw [ht2]; exact rnd_U4 _))
            have HR4 := Aside0.mk (round_eq t3 (by rw [ht3]; exact rnd_U4 _))
            rw [← ht1] at HR1
            rw [← ht2] at HR2
            rw [← ht3] at HR3
            rw [← ht4] at HR4
            have HT := Aside0.mk (show t4 = rnd (rnd (rnd (rnd ⟨s.a, s.b, Go.bits .xor .u64 s.c 255, s.d⟩))) by rw [ht4, ht3, ht2, ht1, hc1])
            clear ht1 ht2 ht3 ht4 hc1 hU1
            have q0 : w3.cell? ⟨gs, 0, none⟩ = some (.int .u64 s.a) := (blk_cell nS.out 0).trans rfl
            have q1 : w3.cell? ⟨gs, 1, none⟩ = some (.int .u64 s.b) := (blk_cell nS.out 1).trans rfl
            have q2 : w3.cell? ⟨gs, 2, none⟩ = some (.int .u64 c1) := (blk_cell nS.out 2).trans rfl
            have q3 : w3.cell? ⟨gs, 3, none⟩ = some (.int .u64 s.d) := (blk_cell nS.out 3).trans rfl
            go_wp2_with (go_at_call 33; ((with_reducible refine (fuseeref23_round.calls _ _ _ _ t1.a t1.b t1.c t1.d _ HR1.out).mono ?_); rintro e w4 ⟨rfl, hb4⟩; clear q0 q1 q2 q3; have mS := Aside0.mk ((hb4.block gs ((Array.getElem?_eq_some_iff.1 nS.out).1)).trans nS.out); have mB := Aside0.mk (nB.out.trans (hb4.mono nB.out.size)); clear nS nB hb4))
            (with_reducible refine (fuseeref23_round.calls _ _ _ _ t2.a t2.b t2.c t2.d _ HR2.out).mono ?_)
            rintro e w5 ⟨rfl, hb4⟩
            have nS := Aside0.mk ((hb4.block gs ((Array.getElem?_eq_some_iff.1 mS.out).1)).trans mS.out)
            have nB := Aside0.mk (mB.out.trans (hb4.mono mB.out.size))
            clear mS mB hb4
            go_wp2_with fail
            (with_reducible refine (fuseeref23_round.calls _ _ _ _ t3.a t3.b t3.c t3.d _ HR3.out).mono ?_)
            rintro e w6 ⟨rfl, hb4⟩
            have mS := Aside0.mk ((hb4.block gs ((Array.getElem?_eq_some_iff.1 nS.out).1)).trans nS.out)
            have mB := Aside0.mk (nB.out.trans (hb4.mono nB.out.size))
            clear nS nB hb4
            go_wp2_with fail
            (with_reducible refine (fuseeref23_round.calls _ _ _ _ t4.a t4.b t4.c t4.d _ HR4.out).mono ?_)
            rintro e w7 ⟨rfl, hb4⟩
            have nS := Aside0.mk ((hb4.block gs ((Array.getElem?_eq_some_iff.1 mS.out).1)).trans mS.out)
            have nB := Aside0.mk (mB.out.trans (hb4.mono mB.out.size))
            clear mS mB hb4
            have f0 := blk_frozen nS.out 0
            have f1 := blk_frozen nS.out 1
            have f2 := blk_frozen nS.out 2
            have f3 := blk_frozen nS.out 3
            have q0 : w7.cell? ⟨gs, 0, none⟩ = some (.int .u64 s.a) := (blk_cell nS.out 0).trans rfl
            have q1 : w7.cell? ⟨gs, 1, none⟩ = some (.int .u64 s.b) := (blk_cell nS.out 1).trans rfl
            have q2 : w7.cell? ⟨gs, 2, none⟩ = some (.int .u64 c1) := (blk_cell nS.out 2).trans rfl
            have q3 : w7.cell? ⟨gs, 3, none⟩ = some (.int .u64 s.d) := (blk_cell nS.out 3).trans rfl
            go_upto_region 17 with (fail)
            refine name_w (fun w8 hq_ => ?_)
            have mS : Aside0 (w8.heap[gs]? = some (.cells #[.int .u64 t4.a, .int .u64 t4.b, .int .u64 t4.c, .int .u64 t4.d] 62 (0, 0))) := ⟨by rw [hq_]; exact blk_put (cs := #[.int .u64 t4.a, .int .u64 t4.b, .int .u64 t4.c, .int .u64 s.d]) (blk_put (cs := #[.int .u64 t4.a, .int .u64 t4.b, .int .u64 c1, .int .u64 s.d]) (blk_put (cs := #[.int .u64 t4.a, .int .u64 s.b, .int .u64 c1, .int .u64 s.d]) (blk_put (cs := #[.int .u64 s.a, .int .u64 s.b, .int .u64 c1, .int .u64 s.d]) nS.out 0 _ rfl) 1 _ rfl) 2 _ rfl) 3 _ rfl⟩
            have mB : Aside0 (Below w.heap.size w w8) := ⟨by rw [hq_]; exact (((nB.out.setCell hgs _).setCell hgs _).setCell hgs _).setCell hgs _⟩
            clear hq_ nS nB q0 q1 q2 q3 f0 f1 f2 f3
            have q0 : w8.cell? ⟨gs, 0, none⟩ = some (.int .u64 t4.a) := (blk_cell mS.out 0).trans rfl
            have q1 : w8.cell? ⟨gs, 1, none⟩ = some (.int .u64 t4.b) := (blk_cell mS.out 1).trans rfl
            have q2 : w8.cell? ⟨gs, 2, none⟩ = some (.int .u64 t4.c) := (blk_cell mS.out 2).trans rfl
            have q3 : w8.cell? ⟨gs, 3, none⟩ = some (.int .u64 t4.d) := (blk_cell mS.out 3).trans rfl
            go_wp2
            go_ret
            refine ⟨?_, mB.out⟩
            rw [← HM.out.1, HE.out]
            unfold endS
            simp only
            rw [← HT.out]
            rfl
      · have h7b : ((L.length : Int) % 8 == 7) = false := beq_eq_false_iff_ne.mpr h7
        have h7c : ((L.length : Int) % 8 != 7) = true := bne_iff_ne.mpr h7
        have h7d := decide_eq_false h7
        have H7 := Lib.hid h7
        have HAL : Hid ((L.length + 1) * 1 ≤ 140737488355328) := Lib.hid (by have e_ := HLZ.out; have l_ := HL.out; have z_ := hz.out; have : L.length = l.length + z := (by rw [e_]; simp); omega)
        clear h7
        go_upto_region 6 with (fail)
        go_wp2_with (first | ((with_reducible refine gate_builtin (b := .append) (xs := #[.tmp 31, .tmp 32]) rfl ?_); at_builtin; refine Kd.R_append (Kd.int .u8) (w0 := w) w.heap.size rfl (.tmp 31) (.tmp 32) 23 5 (.int .u8 0) 1 rfl Try.underlying23 info5 rfl (by decide) (by omega) (.slice A2 L.length c2) L 0 [.int .u8 0] (fun k => k ≠ gs) (fun _ => False) rfl rfl ?aP (fun _ hk => hk.elim) ?aF hO.out hB.out hB.out.size ?aL ?_; (case aP => exact rfl); (case aF => intro k hk; have h1_ := HGL.out; omega); (case aL => exact HAL.out); intro v9 w6 ho hb hg hat; have nS := Aside0.mk (blk_grown hS.out hg (by intro e_; exact (hO.out.1 gs e_.symm) rfl)); have nO := Aside0.mk ho; have nB := Aside0.mk hb; clear ho hb hg hat hO hB hS HGL; have hO := nO; have hB := nB; have hS := nS; clear nO nB nS))
        go_roundw
        case rel =>
          refine ⟨z + 1, ⟨?_⟩, ⟨?_⟩, hS, hB⟩
          · have e := HLZ.out
            have hz' := hz.out
            have hlen : L.length = l.length + z := by rw [e]; simp
            have := H7.out
            omega
          · have e : l ++ List.replicate (z + 1) (0 : Int) = L ++ [0] := by rw [HLZ.out, List.replicate_succ', List.append_assoc]
            rw [e]; exact hO.out
        case measure =>
          obtain ⟨A3, c3, rfl⟩ := Kd.R_slice hO.out
          have e := HLZ.out
          have hz' := hz.out
          have hlen : L.length = l.length + z := by rw [e]; simp
          have := H7.out
          simp only [List.length_append, List.length_cons, List.length_nil]
          omega
end Go.Proofs.Ytiljnlhmeolhfaa.MPf
